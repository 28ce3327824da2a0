/-
  A part of the proof, spaces and names shortened by a program (a claim may hold 1,500,000 bytes).
  Conditions: as each theorem states.
-/
import Derived.Test.YtdnahgfgoajmcaaDoorG12
import Derived.OpenShut
namespace Go.Proofs.YtdnahgfgoajmcaaDoor
open Go Go.Abs
open Go.ChangeShapes Go.WideShapes Go.ChangeAt Go.RowKit
def Pc (ks:List Kd) (o:Nat) (cs:List Value):Prop:=Typed ks ((cs.drop o).take ks.length)
theorem Pc.app {ks ls:List Kd} {o:Nat} {cs:List Value} (x:Pc ks o cs) (y:Pc ls (o+ks.length) cs):Pc (ks++ls) o cs:=by
 unfold Pc at *
 rw [List.length_append,List.take_add,List.drop_drop]
 exact x.app y
theorem Pc.whole {ks:List Kd} {cs:List Value} (x:Pc ks 0 cs) (h:cs.length=ks.length):Typed ks cs:=by
 unfold Pc at x
 rw [List.drop_zero,←h,List.take_length] at x
 exact x
theorem clean_nice {n:Nat} {v:Value} (h:nice n v=true):clean n v=v:=by unfold clean;rw [if_pos h]
theorem Kd.has.clean {k:Kd} {v:Value} (h:k.has v) (n:Nat):clean n v=v:=by
 cases k with
 |u8=>obtain ⟨m,rfl,_⟩:=h;rfl
 |i k=>obtain ⟨m,rfl,_⟩:=h;rfl
 |b=>obtain ⟨t,rfl⟩:=h;rfl
theorem Typed.clean {ks:List Kd} {cs:List Value} (h:Typed ks cs) (n:Nat):cs.map (clean n)=cs:=by
 refine List.ext_getElem? fun j => ?_
 rw [List.getElem?_map]
 by_cases hj:j<ks.length
 ·obtain ⟨v,h1,h2⟩:=h.2 j _ (List.getElem?_eq_getElem hj)
  rw [h1,Option.map_some,h2.clean]
 ·rw [List.getElem?_eq_none (by rw [h.1];omega)];rfl
theorem u8_lit {n:Int} (h:(Lit.int .u8 n).wf=true) : ∃ m:Nat,n=m∧m<256:=by
 simp [Lit.wf,IntKind.min,IntKind.max,IntKind.signed,IntKind.bits] at h
 exact ⟨n.toNat,by omega,by omega⟩
theorem clean_slice {W:World} {a:Addr} {len cap:Nat} (hlc:len≤cap) (hc:0<cap→a.spot=none∧a.block<W.heap.size) :
  isHole (clean W.heap.size (.slice (some a) len cap))=false ∧ ∃ a' ,clean W.heap.size (.slice (some a) len cap) = .slice (some a') len cap∧(0<cap→a'=a):=by
 obtain ⟨b,off,s⟩:=a
 by_cases h0:0<cap
 ·obtain ⟨h1,h2⟩:=hc h0
  have h1':s=none:=h1
  have h2':b<W.heap.size:=h2
  subst h1'
  have hn:nice W.heap.size (.slice (some ⟨b,off,none⟩) len cap)=true:=by simpa [nice] using h2'
  rw [clean_nice hn]
  exact ⟨rfl,_,rfl,fun _=>rfl⟩
 ·obtain rfl:cap=0:=by omega
  obtain rfl:len=0:=by omega
  by_cases hn:nice W.heap.size (.slice (some ⟨b,off,s⟩) 0 0)=true
  ·rw [clean_nice hn]
   exact ⟨rfl,_,rfl,fun h=>absurd h h0⟩
  ·have:clean W.heap.size (.slice (some ⟨b,off,s⟩) 0 0) = .slice (some ⟨0,0,some 0⟩) 0 0:=by unfold clean;rw [if_neg hn];rfl
   rw [this]
   exact ⟨rfl,_,rfl,fun h=>absurd h h0⟩
theorem add_block (a:Addr) (n:Nat):(a.add n).block=a.block:=by unfold Addr.add;split<;>rfl
theorem add_off (a:Addr) (n:Nat):(a.add n).off=a.off+n:=by
 unfold Addr.add
 split
 ·rename_i h;rw [h];rfl
 ·rfl
section
variable {H:Type} {enc:TypeId×Value→H} {W:World} {base:Nat} {held:Bool}
def Reads (enc:TypeId×Value→H) (W:World) (base:Nat) (held:Bool) (t:TypeId) (ks:List Kd):Prop:=
 ∀ fuel cs x,DataW.trod enc Tryd.prog W base (fun _=>true) held fuel t cs=some x→Typed ks cs
theorem reads_u8 {t:TypeId} (ht:Tryd.prog.underlying t=some (.int .u8)):Reads enc W base held t [.u8]:=fun fuel cs x h=>by
 obtain ⟨n,rfl,_,w⟩:=DataW.trod_int ht h
 obtain ⟨m,rfl,hm⟩:=u8_lit w
 exact .one ⟨m,rfl,hm⟩
theorem reads_i {t:TypeId} {k:IntKind} (ht:Tryd.prog.underlying t=some (.int k)):Reads enc W base held t [.i k]:=fun fuel cs x h=>by
 obtain ⟨n,rfl,_,w⟩:=DataW.trod_int ht h
 exact .one ⟨n,rfl,w⟩
theorem reads_b {t:TypeId} (ht:Tryd.prog.underlying t=some .bool):Reads enc W base held t [.b]:=fun fuel cs x h=>by
 obtain ⟨n,rfl,_⟩:=DataW.trod_bool ht h
 exact .one ⟨n,rfl⟩
theorem reads_arr {t e:TypeId} {n:Nat} {k:Kd} (ht:Tryd.prog.underlying t=some (.array n e)) (h1:Tryd.prog.cellsOf e=1) (hn:Tryd.prog.cellsOf t=n) (R:Reads enc W base held e [k]):Reads enc W base held t (List.replicate n k):=fun fuel cs x h=>by
 obtain ⟨xs,m,rfl,_,hl,hx,hf⟩:=DataW.trod_array ht h
 rw [hn] at hl
 refine ⟨by rw [hl,List.length_replicate],fun j t' hj => ?_⟩
 have hj':j<n:=by
  have:=(List.getElem?_eq_some_iff.1 hj).1
  rwa [List.length_replicate] at this
 rw [List.getElem?_replicate,if_pos hj'] at hj
 cases hj
 have:=hf j hj'
 rw [List.getElem?_eq_getElem (by omega),h1,Nat.mul_one] at this
 obtain ⟨v,g1,g2⟩:=(R _ _ _ this).2 0 k rfl
 rw [List.getElem?_take,if_pos (by omega),List.getElem?_drop,Nat.add_zero] at g1
 exact ⟨v,g1,g2⟩
theorem fld {fuel:Nat} {t:TypeId} {cs:List Value} {x:DataW H×List MemPlace} {fs:Array Field} (ht:Tryd.prog.underlying t=some (.struct fs)) (h:DataW.trod enc Tryd.prog W base (fun _=>true) held fuel t cs=some x) {i z:Nat} {f:Field} (hf:fs[i]? = some f) (hz:Tryd.prog.cellsOf f.type=z) :
  ∃ m y,DataW.trod enc Tryd.prog W base (fun _=>true) held m f.type ((cs.drop f.offset).take z)=some y:=by
 obtain ⟨xs,n,rfl,_,_,hl,h2⟩:=DataW.trod_struct ht h
 have:=h2 i f hf
 rw [List.getElem?_eq_getElem (by rw [hl];exact (Array.getElem?_eq_some_iff.1 hf).1),hz] at this
 exact ⟨_,_,this⟩
theorem piece {fuel:Nat} {t:TypeId} {cs:List Value} {x:DataW H×List MemPlace} {fs:Array Field} (ht:Tryd.prog.underlying t=some (.struct fs)) (h:DataW.trod enc Tryd.prog W base (fun _=>true) held fuel t cs=some x) {i:Nat} {f:Field} {ks:List Kd} (hf:fs[i]? = some f) (hz:Tryd.prog.cellsOf f.type=ks.length)
  (R:Reads enc W base held f.type ks):Pc ks f.offset cs:=by
 obtain ⟨m,y,e⟩:=fld ht h hf hz
 exact R _ _ _ e
theorem sl_of {t e:TypeId} {ks:List Kd} (ht:Tryd.prog.underlying t=some (.slice e)) (he:Tryd.prog.cellsOf e=ks.length) (hz:0<ks.length) (R:Reads enc W base held e ks) {fuel:Nat} {v:Value} {x:DataW H×List MemPlace}
  (h:DataW.trod enc Tryd.prog W base (fun _=>true) held fuel t [v]=some x):isHole (clean W.heap.size v)=false ∧ ∃ n cs,SlN (cU W (view W)) ks (clean W.heap.size v) n cs:=by
 have nilT:TypedN ks 0 []:=⟨by simp,fun i hi=>absurd hi (Nat.not_lt_zero i)⟩
 rcases DataW.trod_slice ht h with ⟨h1,_⟩|⟨a,len,cap,elems,rest,n,_,h1,_,_,hlc,hcm,hl,hel,hsp,_⟩
 ·cases h1
  exact ⟨rfl,0,[],none,0,rfl,fun _=>rfl,nilT,fun h=>absurd h (Nat.lt_irrefl 0)⟩
 ·cases h1
  rw [he] at hel hsp
  have hpos:0<cap→a.spot=none∧a.block<W.heap.size:=by
   intro h0
   have key : ∃ cs,W.cells? base (a.add (0*ks.length)) ks.length=some cs:=by
    by_cases hlen:0<len
    ·have:=hel 0 hlen
     rw [List.getElem?_eq_getElem (by omega),Option.bind_eq_some_iff] at this
     obtain ⟨cs,hc,_⟩:=this
     exact ⟨cs,hc⟩
    ·have:=(hsp rfl).2 0 (by omega)
     rw [List.getElem?_eq_getElem (by rw [(hsp rfl).1];omega),Option.bind_eq_some_iff] at this
     obtain ⟨cs,hc,_⟩:=this
     obtain rfl:len=0:=by omega
     exact ⟨cs,hc⟩
   obtain ⟨cs,hc⟩:=key
   obtain ⟨_,hlen,hcell⟩:=World.cells?_some hc
   have g:=hcell 0 hz
   obtain ⟨c0,hc0⟩ : ∃ c0,cs[0]? = some c0:=⟨cs[0],List.getElem?_eq_getElem (by omega)⟩
   rw [hc0,Nat.zero_mul] at g
   have g:W.cell? a=some c0:=g
   obtain ⟨e1,e2,_⟩:=view_cell g
   exact ⟨e1,e2⟩
  obtain ⟨g1,a',g2,g3⟩:=clean_slice (W:=W) hlc hpos
  refine ⟨g1,len,?_⟩
  by_cases h0:len=0
  ·subst h0
   exact ⟨[],_,_,g2,fun _=>rfl,nilT,fun h=>absurd h (Nat.lt_irrefl 0)⟩
  have ha:=g3 (by omega)
  subst ha
  have each : ∀ i,i<len → ∃ k es,view W a'.block=some k∧Typed ks es ∧ ∀ j,j<ks.length→k[a'.off+i*ks.length+j]? = es[j]? := by
   intro i hi
   have h2:=hel i hi
   rw [List.getElem?_eq_getElem (by omega),Option.bind_eq_some_iff] at h2
   obtain ⟨es,hc,ht⟩:=h2
   have ty:=R _ _ _ ht
   obtain ⟨_,hlen,hcell⟩:=World.cells?_some hc
   have vc : ∀ j,j<ks.length → ∃ k,view W a'.block=some k∧k[a'.off+i*ks.length+j]? = es[j]? := by
    intro j hj
    obtain ⟨u,h3,h4⟩:=ty.2 j _ (List.getElem?_eq_getElem hj)
    have g:=hcell j hj
    rw [h3] at g
    obtain ⟨_,_,k,hk,hc2⟩:=view_cell g
    rw [add_block,add_block] at hk
    rw [add_off,add_off,h4.clean] at hc2
    exact ⟨k,hk,by rw [hc2,h3]⟩
   obtain ⟨k,hk,_⟩:=vc 0 hz
   refine ⟨k,es,hk,ty,fun j hj => ?_⟩
   obtain ⟨k',hk',e⟩:=vc j hj
   rw [hk] at hk'
   cases hk'
   exact e
  obtain ⟨k,_,hk,_⟩:=each 0 (by omega)
  have each : ∀ i,i<len → ∃ es,Typed ks es ∧ ∀ j,j<ks.length→k[a'.off+i*ks.length+j]? = es[j]? := fun i hi=>by
   obtain ⟨k',es,hk',h1,h2⟩:=each i hi
   rw [hk] at hk'
   cases hk'
   exact ⟨es,h1,h2⟩
  have hlen:a'.off+len*ks.length≤k.length:=by
   obtain ⟨es,ty,e⟩:=each (len-1) (by omega)
   have:=e (ks.length-1) (by omega)
   obtain ⟨u,hu,_⟩:=ty.2 (ks.length-1) _ (List.getElem?_eq_getElem (by omega))
   rw [hu] at this
   have:=(List.getElem?_eq_some_iff.1 this).1
   have h9:len*ks.length=(len-1)*ks.length+ks.length:=by
    conv=>lhs;rw [show len=(len-1)+1 by omega,Nat.add_mul,Nat.one_mul]
   omega
  refine ⟨(k.drop a'.off).take (len*ks.length),_,_,g2,fun h=>(by cases h),⟨by rw [List.length_take,List.length_drop];omega,fun i hi => ?_⟩,fun _=>⟨a'.block,a'.off,a'.spot,k,rfl,by rw [view_get];exact hk,hlen,rfl⟩⟩
  obtain ⟨es,ty,e⟩:=each i hi
  have hm:=mul_le (z:=ks.length) hi
  have:(((k.drop a'.off).take (len*ks.length)).drop (i*ks.length)).take ks.length=es:=by
   refine List.ext_getElem? fun j => ?_
   rw [List.getElem?_take]
   by_cases hj:j<ks.length
   ·rw [if_pos hj,List.getElem?_drop,List.getElem?_take,if_pos (by omega),List.getElem?_drop,←e j hj,Nat.add_assoc]
   ·rw [if_neg hj,List.getElem?_eq_none (by rw [ty.1];omega)]
  rw [this]
  exact ty
end
end Go.Proofs.YtdnahgfgoajmcaaDoor

namespace Go.Proofs.YtdnahgfgoajmcaaDoor
open Go Go.Abs
theorem wf_u64 {n:Int} (h:(Lit.int .u64 n).wf=true) : ∃ m:Nat,n=m∧m<18446744073709551616:=by
 simp [Lit.wf,IntKind.min,IntKind.max,IntKind.signed,IntKind.bits] at h
 exact ⟨n.toNat,by omega,by omega⟩
theorem dig_of {xs:List Value} (h:Typed digK xs) : ∃ l,xs=aV l∧gz l:=by
 have hl:xs.length=32:=h.1
 have key : ∀ n,n≤32 → ∃ l:List Nat,xs.take n=aV l∧l.length=n∧Bys l:=by
  intro n
  induction n with
  |zero=>exact fun _=>⟨[],rfl,rfl,fun x hx=>by cases hx⟩
  |succ n ih=>
   intro hn
   obtain ⟨l,h1,h2,h3⟩:=ih (by omega)
   obtain ⟨m,h4,h5⟩:=dig_get h (i:=n) (by omega)
   refine ⟨l ++ [m],?_,by simp [h2],fun x hx => ?_⟩
   ·rw [List.take_add_one,h1,h4]
    simp [aV]
   ·rcases List.mem_append.1 hx with hx|hx
    ·exact h3 x hx
    ·simp only [List.mem_cons,List.not_mem_nil,or_false] at hx
     subst hx;exact h5
 obtain ⟨l,h1,h2,h3⟩:=key 32 (Nat.le_refl _)
 rw [List.take_of_length_le (by omega)] at h1
 exact ⟨l,h1,h2,h3⟩
theorem rec_of {xs:List Value} (h:Typed recK xs) : ∃ r,xs=recC r∧r.Wf:=by
 obtain ⟨a,o,b,c,d,e,f,g,rfl,ho,ha,wb,wc,wd,wf,wg⟩:=rec_form h
 obtain ⟨l,rfl,hl⟩:=dig_of ho
 obtain ⟨c,rfl,hc⟩:=wf_u64 wc
 obtain ⟨d,rfl,hd⟩:=wf_u64 wd
 exact ⟨⟨a,l,b,c,d,e,f,g⟩,rfl,ha,hl,wf_i64.1 wb,hc,hd,wf_i64.1 wf,wf_i64.1 wg⟩
theorem list_of {ks:List Kd} {α:Type} {f:α→List Value} {P:α→Prop} (hf : ∀ xs,Typed ks xs → ∃ a,xs=f a∧P a) : ∀ (n:Nat) (cs:List Value),TypedN ks n cs → ∃ l:List α,l.length=n∧cs=l.flatMap f ∧ ∀ a∈l,P a
 | 0,cs,h=>⟨[],rfl,by
   have:cs.length=0:=by rw [h.1,Nat.zero_mul]
   exact List.length_eq_zero_iff.1 this,fun a ha=>by cases ha⟩
 |n+1,cs,h=>by
  have hl:cs.length=(n+1)*ks.length:=h.1
  have h0:=h.2 0 (by omega)
  rw [Nat.zero_mul,List.drop_zero] at h0
  obtain ⟨a,ha,pa⟩:=hf _ h0
  have hl2:(cs.drop ks.length).length=n*ks.length:=by rw [List.length_drop,hl,Nat.add_mul];omega
  obtain ⟨l,q1,q2,q3⟩:=list_of hf n (cs.drop ks.length) ⟨hl2,fun i hi=>by
   have:=h.2 (i+1) (by omega)
   rw [List.drop_drop,show ks.length+i*ks.length=(i+1)*ks.length by rw [Nat.add_mul];omega]
   exact this⟩
  refine ⟨a::l,by simp [q1],?_,fun b hb => ?_⟩
  ·rw [List.flatMap_cons,←ha,←q2,List.take_append_drop]
  ·rcases List.mem_cons.1 hb with rfl|hb
   ·exact pa
   ·exact q3 b hb
theorem byte_of {xs:List Value} (h:Typed [.u8] xs) : ∃ b:Nat,xs = [u8 b]∧b<256:=by
 have hl:xs.length=1:=h.1
 match xs,hl with
 | [v],_=>
   obtain ⟨_,h1,a,rfl,ha⟩:=h.2 0 .u8 rfl
   cases h1
   exact ⟨a,rfl,ha⟩
theorem flat_one (l:List Nat):l.flatMap (fun b => [u8 b])=aV l:=by
 induction l with
 |nil=>rfl
 |cons x l ih=>rw [List.flatMap_cons,ih];rfl
theorem bytes_of_typed {n:Nat} {cs:List Value} (h:TypedN [.u8] n cs) : ∃ l:List Nat,l.length=n∧cs=aV l∧Bys l:=by
 obtain ⟨l,h1,h2,h3⟩:=list_of (f:=fun b => [u8 b]) (P:=fun b=>b<256) (fun xs hx=>byte_of hx) n cs h
 exact ⟨l,h1,by rw [h2,flat_one],h3⟩
end Go.Proofs.YtdnahgfgoajmcaaDoor

namespace Go.Proofs.YtdnahgfgoajmcaaDoor
open Go Go.Abs
attribute [local congr] aq
theorem SlN.bytes {h:ab} {v:Value} {l:List Nat} (x:SlN h [.u8] v l.length (aV l)) (hb:Bys l) : ∃ a c,v = .slice a l.length c∧au a l.length h=some l∧(∀ y,a=some y→0<l.length→slB v=some y.block):=by
 obtain ⟨a,c,rfl,h1,h2,h3⟩:=x
 refine ⟨a,c,rfl,?_,fun y hy hn => ?_⟩
 ·by_cases h0:l.length=0
  ·have:l = []:=List.length_eq_zero_iff.1 h0
   subst this
   cases a with
   |none=>rfl
   |some y=>unfold au bc;simp;rfl
  ·obtain ⟨b,off,s,k,rfl,g,h4,h5⟩:=h3 (by omega)
   have h5:(k.drop off).take (l.length*1)=aV l:=h5
   have h4:off+l.length*1≤k.length:=h4
   rw [Nat.mul_one] at h4 h5
   have e:k=k.take off++(aV l++k.drop (off+l.length)):=by rw [←h5,←List.drop_drop,List.take_append_drop,List.take_append_drop]
   exact fE g e (by rw [List.length_take];omega) hb
 ·subst hy
  obtain ⟨m,hm⟩ : ∃ m,l.length=m+1:=⟨l.length-1,by omega⟩
  rw [hm]
  rfl
end Go.Proofs.YtdnahgfgoajmcaaDoor

namespace Go.Proofs.YtdnahgfgoajmcaaDoor
open Go Go.Abs
open Go.ChangeShapes Go.WideShapes Go.ChangeAt Go.RowKit
theorem SlN.typed {h:ab} {ks:List Kd} {v:Value} {n:Nat} {cs:List Value} (x:SlN h ks v n cs):TypedN ks n cs:=by
 obtain ⟨a,c,rfl,_,h2,_⟩:=x
 exact h2
section
variable {H:Type} {enc:TypeId×Value→H} {W:World} {base:Nat} {held:Bool}
theorem rd5:Reads enc W base held 5 [.u8]:=reads_u8 Tryd.underlying5
theorem rd35:Reads enc W base held 35 digK:=reads_arr Tryd.underlying35 (by kernel_rfl) (by kernel_rfl) rd5
theorem rd58:Reads enc W base held 58 recK:=fun fuel cs x h=>by
 have p0:Pc [.u8] 0 cs:=piece Tryd.underlying58 h (i:=0) rfl (by kernel_rfl) (reads_u8 Tryd.underlying56)
 have p1:Pc digK 1 cs:=piece Tryd.underlying58 h (i:=1) rfl (by kernel_rfl) rd35
 have p2:Pc [.i .i64] 33 cs:=piece Tryd.underlying58 h (i:=2) rfl (by kernel_rfl) (reads_i Tryd.underlying3)
 have p3:Pc [.i .u64] 34 cs:=piece Tryd.underlying58 h (i:=3) rfl (by kernel_rfl) (reads_i Tryd.underlying32)
 have p4:Pc [.i .u64] 35 cs:=piece Tryd.underlying58 h (i:=4) rfl (by kernel_rfl) (reads_i Tryd.underlying32)
 have p5:Pc [.b] 36 cs:=piece Tryd.underlying58 h (i:=5) rfl (by kernel_rfl) (reads_b Tryd.underlying4)
 have p6:Pc [.i .i64] 37 cs:=piece Tryd.underlying58 h (i:=6) rfl (by kernel_rfl) (reads_i Tryd.underlying3)
 have p7:Pc [.i .i64] 38 cs:=piece Tryd.underlying58 h (i:=7) rfl (by kernel_rfl) (reads_i Tryd.underlying3)
 obtain ⟨_,_,_,_,hl,_⟩:=DataW.trod_struct Tryd.underlying58 h
 exact (((((((p0.app p1).app p2).app p3).app p4).app p5).app p6).app p7).whole (hl.trans (by kernel_rfl))
theorem sl23 {fuel:Nat} {v:Value} {x:DataW H×List MemPlace} (h:DataW.trod enc Tryd.prog W base (fun _=>true) held fuel 23 [v]=some x):isHole (clean W.heap.size v)=false ∧ ∃ n cs,SlN (cU W (view W)) [.u8] (clean W.heap.size v) n cs:=sl_of Tryd.underlying23 (ks := [.u8]) (by kernel_rfl) (by decide) rd5 h
end
def litOf {H:Type}:Value→DataW H
 | .int k n => .lit (.int k n)
 |_ => .agg []
theorem litOf_inj {H:Type} {v:Value} {k:IntKind} {n:Int} (h:(litOf v:DataW H) = .lit (.int k n)):v = .int k n:=by
 cases v with
 |int k' n'=>
  have h:(DataW.lit (Lit.int k' n'):DataW H) = .lit (.int k n):=h
  have q:=Lit.int.inj (DataW.lit.inj h)
  rw [q.1,q.2]
 |_=>cases h
theorem len_rounds:bZ.length=64:=by kernel_rfl
theorem rounds_ints:(bZ.all fun v=>match v with | .int _ _=>true|_=>false)=true:=by kernel_rfl
theorem nice_rounds (n:Nat) : ∀ v∈bZ,clean n v=v:=by
 intro v hv
 have h:=rounds_ints
 rw [List.all_eq_true] at h
 have h:=h v hv
 cases v with
 |int k m=>exact clean_nice rfl
 |_=>cases h
theorem rounds_clean (n:Nat):bZ.map (clean n)=bZ:=by
 rw [List.map_congr_left (nice_rounds n),List.map_id']
theorem rounds_cells {W:World} {fuel:Nat} {cs:List Value} {p:List MemPlace} {d:DataW Unit} (hd:d = .agg (bZ.map litOf)) (h:DataW.trod (fun _=>()) Tryd.prog W 0 (fun _=>true) false fuel 175 cs=some (d,p)):cs=bZ:=by
 subst hd
 obtain ⟨xs,m,rfl,hx,hl,hxl,hf⟩:=DataW.trod_array Tryd.underlying175 h
 have h175:Tryd.prog.cellsOf 175=64:=by kernel_rfl
 have h174:Tryd.prog.cellsOf 174=1:=by kernel_rfl
 rw [h175] at hl
 have hx:=congrArg Prod.fst hx
 have hx:(DataW.agg (bZ.map litOf):DataW Unit) = .agg (xs.map (·.1)):=hx
 have hx:=DataW.agg.inj hx
 refine List.ext_getElem? fun j => ?_
 by_cases hj:j<64
 ·have e:=hf j hj
  rw [List.getElem?_eq_getElem (by omega),h174,Nat.mul_one] at e
  obtain ⟨n,e1,e2,_⟩:=DataW.trod_int Tryd.underlying174 e
  have q:(bZ.map (litOf (H:=Unit)))[j]? = (xs.map (·.1))[j]? := by rw [hx]
  rw [List.getElem?_map,List.getElem?_map,List.getElem?_eq_getElem (by rw [len_rounds];exact hj),List.getElem?_eq_getElem (by omega),e2] at q
  have q:=litOf_inj (Option.some.inj q)
  have e3:((cs.drop j).take 1)[0]? = some (.int .u32 n):=by rw [e1];rfl
  rw [List.getElem?_take,if_pos (by decide),List.getElem?_drop,Nat.add_zero] at e3
  rw [e3,List.getElem?_eq_getElem (by rw [len_rounds];exact hj),q]
 ·rw [List.getElem?_eq_none (by omega),List.getElem?_eq_none (by rw [len_rounds];omega)]
end Go.Proofs.YtdnahgfgoajmcaaDoor

namespace Go.Proofs.YtdnahgfgoajmcaaDoor
open Go Go.Abs
theorem eq35:EqT 35 digK:=by
 intro xs ys hx hy
 obtain ⟨r,h1,h2⟩:=dig_run (d:=9998) hx hy
 exact ⟨r,h1,bin_agg (by kernel_rfl) (dg hx.all.2.2) (dg hy.all.2.2) h2⟩
end Go.Proofs.YtdnahgfgoajmcaaDoor

namespace Go.Proofs.YtdnahgfgoajmcaaDoor
open Go Go.Abs
theorem add3 {a b:Nat} (h:a+b≤9223372036854775807):bin Tryd.prog .add 3 (ak a) (.int .i64 (b:Int))=some (ak (a+b)):=by
 unfold ak;rw [bin_add,wrap_i64 (by omega) (by omega),Int.natCast_add]
theorem fc {a:Nat} (h:a+1≤9223372036854775807):bin Tryd.prog .add 3 (ak a) (.int .i64 1)=some (ak (a+1)):=add3 h
theorem lss3 (a b:Nat):bin Tryd.prog .lss 3 (ak a) (ak b)=some (.bool (decide (a<b))):=by
 rw [bG]
 congr 2
 by_cases e:a<b
 ·rw [decide_eq_true e,decide_eq_true (by omega)]
 ·rw [decide_eq_false e,decide_eq_false (by omega)]
end Go.Proofs.YtdnahgfgoajmcaaDoor

namespace Go.Proofs.YtdnahgfgoajmcaaDoor
open Go Go.Abs
section
theorem OwnC.empty (h:ab) {N size b:Nat} (hb:N≤b):OwnC h N size (.slice (some ⟨b,0,none⟩) 0 0) 0 []:=⟨by simp,rfl,rfl,.inr ⟨b,none,rfl,hb,.inl ⟨rfl,rfl⟩⟩⟩
theorem OwnC.base {h:ab} {N size:Nat} {v:Value} {len:Nat} {cells:List Value} (o:OwnC h N size v len cells) {b:Nat} (hb:eZ v=some b):N≤b:=by
 obtain ⟨_,_,_,⟨rfl,_⟩|⟨b',s,rfl,h5,_⟩⟩:=o
 ·cases hb
 ·cases hb;exact h5
end
section
theorem byte_at {h:ab} {a:Option Addr} {n c i:Nat} {l:List Nat} (e:au a n h=some l) (hi:i<n) : ∃ b p,a.map (·.block)=some b∧df 1 (.slice a n c) (ak i)=some (ptr b p)∧ld1 (ptr b p) h=some (u8 (l.getD i 0),h):=by
 obtain ⟨h1,h2,h3⟩:=aE e
 obtain ⟨b,off,s,k,rfl,hk,hlen,hc⟩:=h3 (by omega)
 refine ⟨b,off+i,rfl,?_,aQ hk (hc i hi) rfl⟩
 unfold df
 simp only []
 rw [if_pos (by omega),Int.toNat_natCast,Nat.mul_one]
end
section
end
section
theorem is96:cd Tryd.prog 96 Tryd.f96:=⟨by kernel_rfl,by kernel_rfl,by kernel_rfl,by kernel_rfl⟩
theorem b96_exit (C:ae) (e:Env) (h:ab):b96_4 C 0 e h=k96_2 C e h:=rfl
theorem app_lit {g:ab} {N x:Nat} {v:Value} {l:List Nat} (o:ep g N v l) (h0:g.n0≤N) (hN:N≤g.next) (hx:x<256) (hl:l.length≤1000000) :
  ∃ v' g',aD 1 1 v (.slice (some ⟨g.next,0,none⟩) 1 1) (g.alloc [u8 x])=some (v',g')∧ep g' N v' (l ++ [x])∧Kept g g' (fun c=>eZ v=some c):=by
 have ka:Old g (g.alloc [u8 x]):=Kept.alloc _ _ _
 obtain ⟨v',g',e1,e2,e3,_⟩:=append_ownB (c:=1) (o.keep ka (fun _ _ h=>h)) (by rw [ka.n0];exact h0) (Nat.le_trans hN ka.next) (bytes1 g hx) (by omega)
 exact ⟨v',g',e1,e2,(ka.mono (fun _ _ h=>h.elim)).also e3 (fun _ _ h=>h)⟩
theorem r96 (h:ab) (hG:4≤h.n0) {n k:Nat} (h1:1≤k) (hk:k≤8) (_hn:n<18446744073709551616) : ∃ v h',CW 96 [.int .u64 (n:Int),ak k] h=some (v,h')∧ep h' h.next v (fi k n)∧Old h h':=by
 have oA:Old h (h.alloc []):=Kept.alloc _ _ _
 have nA:(h.alloc []).next=h.next+1:=ab.cn ..
 have own0:ep (h.alloc []) h.next (.slice (some ⟨h.next,0,none⟩) 0 0) []:=⟨OwnC.empty _ (Nat.le_refl _),by simp⟩
 have hn0:=h.ax
 have hsub:bin Tryd.prog .sub 3 (ak k) (.int .i64 1)=some (.int .i64 ((k:Int)-1)):=by
  unfold ak
  rw [eK,wrap_i64 (by omega) (by omega)]
 have key : ∀ o,t96 CW (.int .u64 (n:Int)) (ak k) h=o → ∃ v h',o=some (v,h')∧ep h' h.next v (fi k n)∧Old h h':=by
  intro o ho
  subst ho
  unfold t96
  simp -implicitDefEqProofs only [ad,bsl_bytes,hsub,af]
  refine bO (n:=24) (fin:=fun ex y g=>ex = .exit 0∧ep g h.next (y 5) (fi k n)∧Old h g) (Q:=fun o:Out => ∃ v h',o=some (v,h')∧ep h' h.next v (fi k n)∧Old h h')
   (bP (t96l96_11010_eq CW) (Inv:=fun m y g=>m≤k∧y 0 = .int .u64 (n:Int)∧y 6 = .int .i64 ((m:Int)-1)∧Old h g ∧ ∃ cur,ep g h.next (y 5) cur∧cur++fi m n=fi k n) ?_ k (by have:rounds=18446744073709551616:=rfl;omega)
    ⟨Nat.le_refl _,rfl,rfl,oA,[],own0,rfl⟩) ?_
  ·rintro m y g ⟨hm,y0,y6,bS,cur,own,hcur⟩
   have hclen:cur.length+m=k:=by
    have:=congrArg List.length hcur
    simpa [bH] using this
   unfold t96l96_11010
   simp -implicitDefEqProofs only [y6,ad,bC,af]
   by_cases hz:m=0
   ·subst hz
    have hd:decide ((((0:Nat):Int)-1)≥0)=false:=by decide
    simp -implicitDefEqProofs only [hd]
    have:cur=fi k n:=by simpa [fi] using hcur
    exact dU.out 0 ⟨rfl,this▸own,bS⟩
   ·obtain ⟨q,rfl⟩ : ∃ q,m=q+1:=⟨m-1,by omega⟩
    have hd:decide ((((q+1:Nat):Int)-1)≥0)=true:=decide_eq_true (by omega)
    have hcu:IntKind.wrap .u64 (((q+1:Nat):Int)-1)=((q:Nat):Int):=by
     rw [wrap_u64 (by omega) (by omega)];omega
    have hm8:bin Tryd.prog .mul 111 (.int .u64 8) (.int .u64 ((q:Nat):Int))=some (.int .u64 ((8*q:Nat):Int)):=by
     rw [gU,wrap_u64 (by omega) (by omega)]
     exact congrArg (fun z=>some (Value.int .u64 z)) (by omega)
    have hsh:bin Tryd.prog .shr 32 (.int .u64 (n:Int)) (.int .u64 ((8*q:Nat):Int))=some (.int .u64 ((n/256^q:Nat):Int)):=by
     rw [dR Tryd.prog 32 (k := .u64) (k' := .u64) (b:=8*q) (by show 8*q≤64;omega)]
     rw [show (2:Nat)^(8*q)=256^q by rw [Nat.pow_mul]]
    have hcv:IntKind.wrap .u8 ((n/256^q:Nat):Int)=((n/256^q%256:Nat):Int):=by
     rw [fI];omega
    have hlt8:n/256^q%256<256:=Nat.mod_lt _ (by decide)
    generalize hx:n/256^q%256=x at *
    obtain ⟨v',g',e1,e2,e3⟩:=app_lit own (by rw [bS.n0];exact hn0) bS.next hlt8 (by omega)
    have hsub2:bin Tryd.prog .sub 3 (.int .i64 (((q+1:Nat):Int)-1)) (.int .i64 1)=some (.int .i64 ((q:Int)-1)):=by
     rw [eK,wrap_i64 (by omega) (by omega)]
     exact congrArg (fun z=>some (Value.int .i64 z)) (by omega)
    simp -implicitDefEqProofs only [hd,y0,ad,af,c7,hcu,hm8,hsh,hcv]
    rw [show (Value.int .u8 (x:Int))=u8 x from rfl,bsl1]
    simp -implicitDefEqProofs only [ad,e1,hsub2,af]
    refine dU.next q (by omega) ⟨by omega,y0,rfl,bS.also e3 (fun c hc hb=>by have:=own.own.base hb;omega),cur ++ [x],e2,?_⟩
    rw [←hcur,fi,hx,List.append_assoc];rfl
  ·rintro ex z g ⟨rfl,own,bS⟩
   simp -implicitDefEqProofs only [bB,b96_exit,t96k96_2_eq]
   unfold t96k96_2
   exact ⟨_,g,rfl,own,bS⟩
 obtain ⟨v,h',e,o⟩:=key _ rfl
 exact ⟨v,h',aC is96 hG rfl ((t96_eq _ _ _ _).trans e),o⟩
end
end Go.Proofs.YtdnahgfgoajmcaaDoor

namespace Go.Proofs.YtdnahgfgoajmcaaDoor
open Go Go.Abs
attribute [local congr] aq
end Go.Proofs.YtdnahgfgoajmcaaDoor

namespace Go.Proofs.YtdnahgfgoajmcaaDoor
open Go Go.Abs
attribute [local congr] aq
end Go.Proofs.YtdnahgfgoajmcaaDoor

namespace Go.Proofs.YtdnahgfgoajmcaaDoor
open Go Go.Abs
end Go.Proofs.YtdnahgfgoajmcaaDoor

namespace Go.Proofs.YtdnahgfgoajmcaaDoor
open Go Go.Abs
attribute [local congr] aq
end Go.Proofs.YtdnahgfgoajmcaaDoor

namespace Go.Proofs.YtdnahgfgoajmcaaDoor
open Go Go.Abs
attribute [local congr] aq
def GZ (h:ab):Prop:=h.get 0=some (aV z32)
theorem GZ.bS {h h':ab} (x:GZ h) (o:Old h h'):GZ h':=Old.get o x
theorem GZ.ld {h:ab} (x:GZ h):cT 32 (ptr 0 0) h=some (.agg (aV z32).toArray,h):=bh x rfl (u8s_ok _).1
def personB (r:ao):Bool:=decide (r.aH≥0)&&decide (r.aH≤15)&&decide ((r.inc:Int)≥1)
def bareB (r:ao):Bool:=((r.num:Int)==0)&&(!r.held)&&(r.k==0)&&(r.n==0)
theorem person_seg {h:ab} {b:Nat} {r:ao} (A:RLd h b r) (K:Value→ab→Out) :
 (
 aa (pu (aL (ptr b 0) 33) h) fun y5 h=>
 aa (ld1 y5 h) fun y6 h=>
 aa (pu (bin Tryd.prog .geq 3 y6 (.int .i64 0)) h) fun y7 h=>
 aa (some (y7,h)) fun y8 h=>
 aa (ai (aR y8==some true) (pu (aL (ptr b 0) 33) h) h) fun y9 h=>
 aa (ai (aR y8==some true) (ld1 y9 h) h) fun y10 h=>
 aa (ai (aR y8==some true) (pu (bin Tryd.prog .leq 3 y10 (.int .i64 15)) h) h) fun y11 h=>
 aa (match y8 with | .bool t=>some (if t then y11 else (.bool false),h)|_=>none) fun y12 h=>
 aa (some (y12,h)) fun y13 h=>
 aa (ai (aR y13==some true) (pu (aL (ptr b 0) 34) h) h) fun y14 h=>
 aa (ai (aR y13==some true) (ld1 y14 h) h) fun y15 h=>
 aa (ai (aR y13==some true) (pu (bin Tryd.prog .geq 32 y15 (.int .u64 1)) h) h) fun y16 h=>
 aa (match y13 with | .bool t=>some (if t then y16 else (.bool false),h)|_=>none) fun y17 h=>
 aa (some (y17,h)) fun y3 h=>
 K y3 h)=K (.bool (personB r)) h:=by
 unfold personB
 cases q0:decide (r.aH≥0) with
 |false=>simp -implicitDefEqProofs only [A.l33, ad, af, aY, fs, aw, Bool.false_eq_true, if_false, aB, Nat.zero_add, bC, q0, Bool.false_and]
 |true=>
 cases q1:decide (r.aH≤15) with
 |false=>simp -implicitDefEqProofs only [A.l33, ad, af, aY, fs, beq_self_eq_true, ay, aw, Bool.false_eq_true, if_false, if_true, aB, Nat.zero_add, bC, bM, q0, q1, Bool.and_false, Bool.false_and]
 |true=>
 cases q2:decide ((r.inc:Int)≥1) with
 |false=>simp -implicitDefEqProofs only [A.l33, A.l34, ad, af, aY, beq_self_eq_true, ay, if_true, aB, Nat.zero_add, bC, bM, q0, q1, q2, Bool.and_true, Bool.and_false]
 |true=>
 simp -implicitDefEqProofs only [A.l33, A.l34, ad, af, aY, beq_self_eq_true, ay, if_true, aB, Nat.zero_add, bC, bM, q0, q1, q2, Bool.and_true]
theorem bare_seg {h:ab} {b:Nat} {r:ao} (A:RLd h b r) (K:Value→ab→Out) :
 (
 aa (pu (aL (ptr b 0) 35) h) fun y18 h=>
 aa (ld1 y18 h) fun y19 h=>
 aa (pu (bin Tryd.prog .eql 32 y19 (.int .u64 0)) h) fun y20 h=>
 aa (some (y20,h)) fun y21 h=>
 aa (ai (aR y21==some true) (pu (aL (ptr b 0) 36) h) h) fun y22 h=>
 aa (ai (aR y21==some true) (ld1 y22 h) h) fun y23 h=>
 aa (ai (aR y21==some true) (pu (unA .not y23) h) h) fun y24 h=>
 aa (match y21 with | .bool t=>some (if t then y24 else (.bool false),h)|_=>none) fun y25 h=>
 aa (some (y25,h)) fun y26 h=>
 aa (ai (aR y26==some true) (pu (aL (ptr b 0) 37) h) h) fun y27 h=>
 aa (ai (aR y26==some true) (ld1 y27 h) h) fun y28 h=>
 aa (ai (aR y26==some true) (pu (bin Tryd.prog .eql 3 y28 (.int .i64 0)) h) h) fun y29 h=>
 aa (match y26 with | .bool t=>some (if t then y29 else (.bool false),h)|_=>none) fun y30 h=>
 aa (some (y30,h)) fun y31 h=>
 aa (ai (aR y31==some true) (pu (aL (ptr b 0) 38) h) h) fun y32 h=>
 aa (ai (aR y31==some true) (ld1 y32 h) h) fun y33 h=>
 aa (ai (aR y31==some true) (pu (bin Tryd.prog .eql 3 y33 (.int .i64 0)) h) h) fun y34 h=>
 aa (match y31 with | .bool t=>some (if t then y34 else (.bool false),h)|_=>none) fun y35 h=>
 aa (some (y35,h)) fun y4 h=>
 K y4 h)=K (.bool (bareB r)) h:=by
 unfold bareB
 cases q0:((r.num:Int)==0) with
 |false=>simp -implicitDefEqProofs only [A.l35, ad, af, aY, fs, aw, Bool.false_eq_true, if_false, aB, Nat.zero_add, bq, q0, Bool.false_and]
 |true=>
 cases q1:(!r.held) with
 |false=>simp -implicitDefEqProofs only [A.l35, A.l36, ad, af, aY, fs, beq_self_eq_true, ay, aw, Bool.false_eq_true, if_false, if_true, aB, Nat.zero_add, aX, bq, q0, q1, Bool.and_false, Bool.false_and]
 |true=>
 cases q2:(r.k==0) with
 |false=>simp -implicitDefEqProofs only [A.l35, A.l36, A.l37, ad, af, aY, fs, beq_self_eq_true, ay, aw, Bool.false_eq_true, if_false, if_true, aB, Nat.zero_add, aX, bq, q0, q1, q2, Bool.and_true, Bool.and_false, Bool.false_and]
 |true=>
 cases q3:(r.n==0) with
 |false=>simp -implicitDefEqProofs only [A.l35, A.l36, A.l37, A.l38, ad, af, aY, beq_self_eq_true, ay, if_true, aB, Nat.zero_add, aX, bq, q0, q1, q2, q3, Bool.and_true, Bool.and_false]
 |true=>
 simp -implicitDefEqProofs only [A.l35, A.l36, A.l37, A.l38, ad, af, aY, beq_self_eq_true, ay, if_true, aB, Nat.zero_add, aX, bq, q0, q1, q2, q3, Bool.and_true]
def recR (r:ao):Bool:=if (r.kind:Int)==1 then personB r&&bareB r&&decide (r.obj=z32) else if (r.kind:Int)==2 then bareB r&&(r.aH==0)&&((r.inc:Int)==0) else if (r.kind:Int)==3 then personB r&&decide ((r.num:Int)≥1)&&decide (1≤r.k)&&decide (r.k≤r.n)&&decide (r.n≤255) else false
theorem person_holder (r:ao):personB r=gV r:=by
 unfold personB gV
 congr 2
 exact decide_eq_decide.2 (by omega)
theorem bare_spec (r:ao):bareB r=true↔r.num=0∧r.held=false∧r.k=0∧r.n=0:=by
 unfold bareB
 simp only [Bool.and_eq_true,beq_iff_eq,Bool.not_eq_true']
 constructor
 ·rintro ⟨⟨⟨h1,h2⟩,h3⟩,h4⟩
  exact ⟨by omega,h2,h3,h4⟩
 ·rintro ⟨h1,h2,h3,h4⟩
  exact ⟨⟨⟨by omega,h2⟩,h3⟩,h4⟩
theorem recR_eq (r:ao):recR r=dK r:=by
 unfold recR dK pieceB
 rw [person_holder]
 split
 ·rw [Bool.eq_iff_iff]
  simp only [Bool.and_eq_true,decide_eq_true_eq,bare_spec]
  constructor
  ·rintro ⟨⟨h1,h2,h3,h4,h5⟩,h6⟩
   refine ⟨?_,h1⟩
   unfold ao.base ao.z
   exact ao.ext rfl h6 rfl rfl h2 h3 h4 h5
  ·rintro ⟨h1,h2⟩
   refine ⟨⟨h2,?_⟩,?_⟩
   ·rw [h1];exact ⟨rfl,rfl,rfl,rfl⟩
   ·rw [h1];rfl
 split
 ·rw [Bool.eq_iff_iff]
  simp only [Bool.and_eq_true,decide_eq_true_eq,bare_spec,beq_iff_eq]
  constructor
  ·rintro ⟨⟨⟨h2,h3,h4,h5⟩,h6⟩,h7⟩
   unfold ao.grave ao.z
   exact ao.ext rfl rfl h6 (by show r.inc=0;omega) h2 h3 h4 h5
  ·intro h1
   refine ⟨⟨?_,?_⟩,?_⟩
   ·rw [h1];exact ⟨rfl,rfl,rfl,rfl⟩
   ·rw [h1];rfl
   ·rw [h1];rfl
 ·rfl
theorem is48:cd Tryd.prog 48 Tryd.f48:=⟨by kernel_rfl,by kernel_rfl,by kernel_rfl,by kernel_rfl⟩
set_option maxRecDepth 100000 in
theorem r48 {h:ab} (hG:4≤h.n0) (hz:GZ h) {r:ao} (w:r.Wf) : ∃ h',CW 48 [.agg (recC r).toArray] h=some (.bool (dK r),h')∧Old h h':=by
 obtain ⟨h1,b1,o1,A⟩:=rec_box h w
 have z1:=(hz.bS o1).ld
 obtain ⟨q,hq,e28,_⟩:=eq35 (aV r.obj) (aV z32) (cF w.obj) (cF z32_ok)
 have hq:q=decide (r.obj=z32):=by
  by_cases e:r.obj=z32
  ·rw [decide_eq_true e,hq.2 (by rw [e])]
  ·rw [decide_eq_false e]
   cases q with
   |false=>rfl
   |true=>exact absurd (u8s_inj (hq.1 rfl)) e
 rw [hq] at e28
 refine ⟨h1,aC is48 hG rfl ((t48_eq _ _ _).trans ?_),o1⟩
 rw [←recR_eq]
 unfold t48
 rw [b1,ad,ad]
 refine (person_seg A _).trans ?_
 refine (bare_seg A _).trans ?_
 unfold recR
 cases k1:(r.kind:Int)==1 with
 |true=>
  rw [if_pos rfl]
  cases q0:personB r with
  |false=>simp -implicitDefEqProofs only [A.l0, k1, ad, af, aY, fs, aw, Bool.false_eq_true, if_false, aB, Nat.zero_add, bq, Bool.false_and]
  |true=>
  cases q1:bareB r with
  |false=>simp -implicitDefEqProofs only [A.l0, k1, ad, af, aY, fs, beq_self_eq_true, ay, aw, Bool.false_eq_true, if_false, if_true, aB, Nat.zero_add, bq, Bool.and_false, Bool.false_and]
  |true=>
  simp -implicitDefEqProofs only [A.l0, A.l1, k1, z1, e28, ad, af, aY, beq_self_eq_true, ay, if_true, aB, Nat.zero_add, bq, Bool.and_true, Bool.true_and]
 |false=>
 rw [if_neg (by decide)]
 cases k2:(r.kind:Int)==2 with
 |true=>
  rw [if_pos rfl]
  cases q0:bareB r with
  |false=>simp -implicitDefEqProofs only [A.l0, k1, k2, ad, af, aY, fs, aw, Bool.false_eq_true, if_false, aB, Nat.zero_add, bq, Bool.false_and]
  |true=>
  cases q1:(r.aH==0) with
  |false=>simp -implicitDefEqProofs only [A.l0, A.l33, k1, k2, ad, af, aY, fs, beq_self_eq_true, ay, aw, Bool.false_eq_true, if_false, if_true, aB, Nat.zero_add, bq, q1, Bool.and_false, Bool.false_and]
  |true=>
  simp -implicitDefEqProofs only [A.l0, A.l33, A.l34, k1, k2, ad, af, aY, beq_self_eq_true, ay, if_true, aB, Nat.zero_add, bq, q1, Bool.and_true, Bool.true_and]
 |false=>
 rw [if_neg (by decide)]
 cases k3:(r.kind:Int)==3 with
 |true=>
  rw [if_pos rfl]
  cases q0:personB r with
  |false=>simp -implicitDefEqProofs only [A.l0, k1, k2, k3, ad, af, aY, fs, aw, Bool.false_eq_true, if_false, aB, Nat.zero_add, bq, Bool.false_and]
  |true=>
  cases q1:decide ((r.num:Int)≥1) with
  |false=>simp -implicitDefEqProofs only [A.l0, A.l35, k1, k2, k3, ad, af, aY, fs, beq_self_eq_true, ay, aw, Bool.false_eq_true, if_false, if_true, aB, Nat.zero_add, bC, bq, q1, Bool.and_false, Bool.false_and]
  |true=>
  cases q2:decide (1≤r.k) with
  |false=>simp -implicitDefEqProofs only [A.l0, A.l35, A.l37, k1, k2, k3, ad, af, aY, fs, beq_self_eq_true, ay, aw, Bool.false_eq_true, if_false, if_true, aB, Nat.zero_add, bC, bM, bq, q1, q2, Bool.and_true, Bool.and_false, Bool.false_and]
  |true=>
  cases q3:decide (r.k≤r.n) with
  |false=>simp -implicitDefEqProofs only [A.l0, A.l35, A.l37, A.l38, k1, k2, k3, ad, af, aY, fs, beq_self_eq_true, ay, aw, Bool.false_eq_true, if_false, if_true, aB, Nat.zero_add, bC, bM, bq, q1, q2, q3, Bool.and_true, Bool.and_false, Bool.false_and]
  |true=>
  cases q4:decide (r.n≤255) with
  |false=>simp -implicitDefEqProofs only [A.l0, A.l35, A.l37, A.l38, k1, k2, k3, ad, af, aY, beq_self_eq_true, ay, if_true, aB, Nat.zero_add, bC, bM, bq, q1, q2, q3, q4, Bool.and_true, Bool.and_false]
  |true=>
  simp -implicitDefEqProofs only [A.l0, A.l35, A.l37, A.l38, k1, k2, k3, ad, af, aY, beq_self_eq_true, ay, if_true, aB, Nat.zero_add, bC, bM, bq, q1, q2, q3, q4, Bool.and_true]
 |false=>
 rw [if_neg (by decide)]
 simp -implicitDefEqProofs only [A.l0, k1, k2, k3, ad, af, aY, aB, Nat.zero_add, bq]
end Go.Proofs.YtdnahgfgoajmcaaDoor

namespace Go.Proofs.YtdnahgfgoajmcaaDoor
open Go Go.Abs
attribute [local congr] aq
theorem chkI (k:IntKind) (n:Int) (h:ab):bN true (some (.int k n,h)) (.int k n)=true:=by simp [bN,same,veq]
section
variable {h h1:ab} {a:Option Addr} {n c:Nat} {l:List Nat} {y:Nat→Value}
end
end Go.Proofs.YtdnahgfgoajmcaaDoor

namespace Go.Proofs.YtdnahgfgoajmcaaDoor
open Go Go.Abs
attribute [local congr] aq
theorem bytesL (h:ab) {l:List Nat} (hb:Bys l):au (some ⟨h.next,0,none⟩) l.length (h.alloc (aV l))=some l:=by
 have:=cK (h:=h.alloc (aV l)) (b:=h.next) (off:=0) (n:=l.length) (s:=none) (l:=l) (by rw [ab.aK,if_pos rfl]) (by simp) hb
 rw [this,List.drop_zero,List.take_of_length_le (Nat.le_refl _)]
theorem ep.weak {h:ab} {N M:Nat} {v:Value} {l:List Nat} (o:ep h N v l) (hM:M≤N):ep h M v l:=by
 obtain ⟨⟨h1,h2,h3,h4⟩,hb⟩:=o
 refine ⟨⟨h1,h2,h3,?_⟩,hb⟩
 rcases h4 with h4|⟨b,s,e,h5,h6⟩
 ·exact .inl h4
 ·exact .inr ⟨b,s,e,by omega,h6⟩
theorem append_lit {h:ab} {b off n k c:Nat} {a:Option Addr} {l m:List Nat} (hl:au (some ⟨b,off,none⟩) n h=some l) (hm:au a k h=some m) (hk:0<k) (hb:n+k≤100000000) :
  ∃ v' h',aD 1 1 (.slice (some ⟨b,off,none⟩) n n) (.slice a k c) h=some (v',h')∧ep h' h.next v' (l++m)∧Old h h':=by
 obtain ⟨l1,lb,_⟩:=aE hl
 obtain ⟨m1,mb,_⟩:=aE hm
 have f1:=gD hl (Nat.le_refl n) (c:=n)
 rw [List.take_of_length_le (by omega)] at f1
 have f2:=gD hm (Nat.le_refl k) (c:=c)
 rw [List.take_of_length_le (by omega)] at f2
 refine ⟨.slice (some ⟨h.next,0,some 1⟩) (n+k) (n+k),h.alloc (aV l++aV m),?_,⟨⟨?_,?_,?_,.inr ⟨h.next,some 1,?_,Nat.le_refl _,.inr ⟨rfl,?_⟩⟩⟩,?_⟩,Kept.alloc _ _ _⟩
 ·unfold aD
  simp only [show lenA (.slice a k c)=some k from rfl,f1,f2]
  have c1:((!(aJ (m.map u8)) || !(decide ((n+k)*1≤140737488355328)) || !(decide (n+k≤4611686018427387904))||decide ((m.map u8).length≠k*1))=true)↔False:=by
   rw [one_u8,decide_eq_true (by omega),decide_eq_true (by omega),decide_eq_false (by simp;omega)]
   simp
  rw [if_neg (by rw [c1];exact id),if_neg (by omega),if_neg (by simp;omega)]
 ·simp
 ·rw [List.map_append];exact gZ _ _ (fF _) (fF _)
 ·rw [List.map_append];exact gh _ _ (one_u8 _) (one_u8 _)
 ·rw [List.length_append,l1,m1]
 ·rw [ab.aK,if_pos rfl,List.map_append]
 ·intro x hx
  rcases List.mem_append.1 hx with hx|hx
  ·exact lb x hx
  ·exact mb x hx
theorem app_sl {h0 g:ab} {v:Value} {l m:List Nat} {a:Option Addr} {n c:Nat} (K:Old h0 g) (o:ep g h0.next v l) (hm:au a n g=some m) (hb:l.length+n≤100000000) : ∃ v' g2,aD 1 1 v (.slice a n c) g=some (v',g2)∧ep g2 h0.next v' (l++m)∧Old h0 g2:=by
 obtain ⟨v',g2,e1,e2,k,_⟩:=append_ownB o (by rw [K.n0];exact h0.ax) K.next hm hb (c:=c)
 exact ⟨v',g2,e1,e2,K.also k (fun d hd e=>by have:=o.own.base e;omega)⟩
theorem app_own {h0 g g1:ab} {v w:Value} {l m:List Nat} {N:Nat} (K:Old h0 g) (o:ep g h0.next v l) (o1:Old g g1) (ow:ep g1 N w m) (hb:l.length+m.length≤100000000) : ∃ v' g2,aD 1 1 v w g1=some (v',g2)∧ep g2 h0.next v' (l++m)∧Old h0 g2:=by
 obtain ⟨a,c,rfl,s,_,_⟩:=ow.bytes
 exact app_sl (K.trans o1) (o.keep o1 (fun _ _ h=>h)) s hb
theorem app_one {h0 g:ab} {v:Value} {l:List Nat} {x:Nat} (K:Old h0 g) (o:ep g h0.next v l) (hx:x<256) (hb:l.length+1≤100000000) : ∃ v' g2,aD 1 1 v (.slice (some ⟨g.next,0,none⟩) 1 1) (g.alloc [u8 x])=some (v',g2)∧ep g2 h0.next v' (l ++ [x])∧Old h0 g2:=by
 have ka:Old g (g.alloc [u8 x]):=Kept.alloc _ _ _
 exact app_sl (c:=1) (K.trans ka) (o.keep ka (fun _ _ h=>h)) (bytes1 g hx) hb
theorem beB1 {x:Nat} (h:x<256):fi 1 x = [x]:=by simp [fi,Nat.mod_eq_of_lt h]
theorem is46:cd Tryd.prog 46 Tryd.f46:=⟨by kernel_rfl,by kernel_rfl,by kernel_rfl,by kernel_rfl⟩
theorem is97:cd Tryd.prog 97 Tryd.f97:=⟨by kernel_rfl,by kernel_rfl,by kernel_rfl,by kernel_rfl⟩
theorem r97 {h:ab} (hG:4≤h.n0) (b:Bool):CW 97 [.bool b] h=some (.int .u64 ((bit b:Nat):Int),h):=by
 refine aC is97 hG rfl ((t97_eq _ _ _).trans ?_)
 unfold t97
 cases b<;>rfl
theorem cv8i (k:IntKind) (x:Int) (h:ab):cvI .u8 (.int k x) h=some (u8 (i8 x),h):=by rw [c7,wrap_i8]
theorem chkU (x:Nat) (h:ab):bN true (some (u8 x,h)) (u8 x)=true:=chkI .u8 _ _
theorem enc3 (a b c:Nat) (ha:a<256) (hb:b<256) (hc:c<256):fi 1 a++(fi 1 b++fi 1 c) = [a,b,c]:=by rw [beB1 ha,beB1 hb,beB1 hc];rfl
theorem bsl3 (h:ab) (x y z:Nat):cO 1 (.int .u8 0) 3 [(0,u8 x),(1,u8 y),(2,u8 z)] h=some (.slice (some ⟨h.next,0,none⟩) 3 3,h.alloc (aV [x,y,z])):=rfl
set_option maxRecDepth 100000 in
theorem r46 {h:ab} (hG:4≤h.n0) (hz:GZ h) {r:ao} (w:r.Wf) (hv:dK r=true) : ∃ v h',CW 46 [.agg (recC r).toArray] h=some (.tuple #[v,.int .i64 0],h')∧ep h' h.next v (encRec r)∧Old h h':=by
 have cr:=bg w
 have b1:box (.agg (recC r).toArray) h=some (ptr h.next 0,h.alloc (recC r)):=fT h _ cr.2.2
 have o1:Old h (h.alloc (recC r)):=Kept.alloc _ _ _
 have g1:(h.alloc (recC r)).get h.next=some (recC r):=by rw [ab.aK,if_pos rfl]
 have n1:(h.alloc (recC r)).next=h.next+1:=ab.cn ..
 generalize h.alloc (recC r)=h1 at *
 have L : ∀ g,Old h1 g→RLd g h.next r:=fun g o=>r_ld w (Old.get o g1)
 have A1:=L h1 (Kept.refl _ _)
 obtain ⟨h2,e2,o2⟩:=r48 (h:=h1) (by rw [o1.n0];exact hG) (hz.bS o1) w
 rw [hv] at e2
 have A2:=L h2 o2
 have O2:=o1.trans o2
 have ha:=arr32 h.next 1
 have hs2 : ∀ g,Old h1 g→au (some ⟨h.next,1,none⟩) 32 g=some r.obj:=fun g o=>by
  have:=fE (s:=none) (Old.get o g1) (show recC r = [.int .u8 (r.kind:Int)]++(aV r.obj ++ [.int .i64 r.aH,.int .u64 (r.inc:Int),.int .u64 (r.num:Int),.bool r.held,.int .i64 r.k,.int .i64 r.n]) from rfl) rfl w.obj.2
  rw [w.obj.1] at this
  exact this
 have b3:=bsl1 h2 r.kind
 have ka:Old h2 (h2.alloc [u8 r.kind]):=Kept.alloc _ _ _
 obtain ⟨v4,h4,e4,O4,k4⟩:=append_lit (c:=32) (bytes1 h2 w.kind) (hs2 _ (o2.trans ka)) (by decide) (by decide)
 have K4:=(o2.trans ka).trans k4
 have O4:=O4.weak (M:=h1.next) (Nat.le_trans o2.next ka.next)
 have A4:=L h4 K4
 have cv1:=cv8i .i64 r.aH h4
 have b5:=bsl1 h4 (i8 r.aH)
 obtain ⟨v5,h5,e5,O5,K5⟩:=app_one (h0:=h1) K4 O4 (i8_lt r.aH) (by simp [w.obj.1])
 have A5:=L h5 K5
 have G5:4≤h5.n0:=by rw [K5.n0,o1.n0];exact hG
 obtain ⟨w6,h6,e6,W6,k6⟩:=r96 h5 G5 (n:=r.inc) (k:=8) (by decide) (by decide) w.inc
 have e6:CW 96 [.int .u64 (r.inc:Int),.int .i64 8] h5=_:=e6
 obtain ⟨v7,h7,e7,O7,K7⟩:=app_own K5 O5 k6 W6 (by simp [w.obj.1,bH])
 have A6:=L h6 (K5.trans k6)
 have A7:=L h7 K7
 have G7:4≤h7.n0:=by rw [K7.n0,o1.n0];exact hG
 obtain ⟨w8,h8,e8,W8,k8⟩:=r96 h7 G7 (n:=r.num) (k:=8) (by decide) (by decide) w.num
 have e8:CW 96 [.int .u64 (r.num:Int),.int .i64 8] h7=_:=e8
 obtain ⟨v9,h9,e9,O9,K9⟩:=app_own K7 O7 k8 W8 (by simp [w.obj.1,bH])
 have A9:=L h9 K9
 have G9:4≤h9.n0:=by rw [K9.n0,o1.n0];exact hG
 have e10:=r97 G9 r.held
 have hbit:=bit_lt r.held
 have cvb:cvI .u8 (.int .u64 ((bit r.held:Nat):Int)) h9=some (u8 (bit r.held),h9):=by rw [c7,wrap_u8 (by omega) (by omega)]
 have cvk:=cv8i .i64 r.k h9
 have cvn:=cv8i .i64 r.n h9
 have b11:=bsl3 h9 (bit r.held) (i8 r.k) (i8 r.n)
 have ka9:Old h9 (h9.alloc (aV [bit r.held,i8 r.k,i8 r.n])):=Kept.alloc _ _ _
 have hb3:Bys [bit r.held,i8 r.k,i8 r.n]:=fun x hx=>by
  simp only [List.mem_cons,List.not_mem_nil,or_false] at hx
  rcases hx with rfl|rfl|rfl
  ·omega
  ·exact i8_lt _
  ·exact i8_lt _
 obtain ⟨v12,h12,e12,O12,K12⟩:=app_sl (c:=3) (K9.trans ka9) (O9.keep ka9 (fun _ _ h=>h)) (bytesL h9 hb3) (by simp [w.obj.1,bH])
 have e12:aD 1 1 v9 (.slice (some ⟨h9.next,0,none⟩) 3 3) (h9.alloc (aV [bit r.held,i8 r.k,i8 r.n]))=some (v12,h12):=e12
 have cku1:=chkU (i8 r.k) h9
 have cku2:=chkU (i8 r.n) h9
 refine ⟨v12,h12,aC is46 hG rfl ((t46_eq _ _ _).trans ?_),?_,o1.trans K12⟩
 ·unfold t46
  simp -implicitDefEqProofs only [b1, A1.all, e2, A2.l0, ha, b3, e4, A4.l33, cv1, b5, e5, A5.l34, e6, e7, A7.l35, A5.l35, A6.l35, e8, e9, A9.l36, e10, cvb, A9.l37, A9.l38, cvk, cvn, b11, e12, chkI, cku1, cku2, ad, af, Bool.not_true, aX, Bool.and_true, Bool.and_self, aB, Nat.zero_add]
 ·have O12:=O12.weak (M:=h.next) (by omega)
  have ee:encRec r=((((([r.kind]++r.obj) ++ [i8 r.aH])++fi 8 r.inc)++fi 8 r.num) ++ [bit r.held,i8 r.k,i8 r.n]):=by
   unfold encRec
   rw [beB1 w.kind,beB1 (i8_lt _),enc3 _ _ _ (by omega) (i8_lt _) (i8_lt _)]
   simp only [List.append_assoc]
  rw [ee]
  exact O12
end Go.Proofs.YtdnahgfgoajmcaaDoor

namespace Go.Proofs.YtdnahgfgoajmcaaDoor
open Go Go.Abs
attribute [local congr] aq
theorem strOf_size (l:List Nat):(strOf l).size=l.length:=by simp [strOf,ByteArray.size]
theorem strOf_add (l m:List Nat):strOf l++strOf m=strOf (l++m):=by
 apply ByteArray.ext
 rw [ByteArray.data_append]
 simp [strOf]
theorem str_add {a b:ByteArray} (h:a.size+b.size≤1000000):bin Tryd.prog .add 9 (.string a) (.string b)=some (.string (a++b)):=by
 unfold bin eqOk
 simp only [if_true]
 unfold binA
 simp only [ground,flat,Bool.and_self,if_true]
 have e : (binOp .add 9 (.string a) (.string b)) = (if ((a.size + b.size : Nat) : Int) > IntKind.i64.max then unsupported (Unsupported.resourceLimit "string concatenation: a sum of the lengths that is no int") else pure (.string (a ++ b))) := rfl
 rw [e,if_neg (by have:IntKind.i64.max=9223372036854775807:=rfl;omega)]
 rfl
theorem add_str (l m:List Nat) (h:l.length+m.length≤1000000):bin Tryd.prog .add 9 (.string (strOf l)) (.string (strOf m))=some (.string (strOf (l++m))):=by
 rw [str_add (by rw [strOf_size,strOf_size];exact h),strOf_add]
theorem chkS (s:ByteArray) (h:ab):bN true (some (.string s,h)) (.string s)=true:=by simp [bN,same,veq]
theorem plus_get {h a b:ab} {k:Blk} (hk:b.aF a.next=some (.cells k)) (hn:h.next≤a.next):(ab.plus true h a b).get a.next=some k:=by
 unfold ab.plus
 rw [if_pos rfl,hk]
 obtain ⟨_,_,p3,_⟩:=ab.pad_spec h (a.next-h.next)
 simp only
 refine ab.cB _ ?_
 show ((ab.pad (a.next-h.next) h).aZ (.cells k)).aF a.next=_
 rw [ab.bx,p3,if_pos (by omega)]
def keyB (r:ao):List Nat := [r.kind]++r.obj ++ [i8 r.aH]
theorem keyB_len {r:ao} (w:r.Wf):(keyB r).length=34:=by unfold keyB;simp [w.obj.1]
theorem keyB_bys {r:ao} (w:r.Wf):Bys (keyB r):=by
 intro x hx
 unfold keyB at hx
 simp only [List.mem_append,List.mem_cons,List.not_mem_nil,or_false] at hx
 rcases hx with (rfl|hx)|rfl
 ·exact w.kind
 ·exact w.obj.2 x hx
 ·exact i8_lt _
theorem obj_sl {g:ab} {b:Nat} {r:ao} (w:r.Wf) (g1:g.get b=some (recC r)):au (some ⟨b,1,none⟩) 32 g=some r.obj:=by
 have:=fE (s:=none) g1 (show recC r = [.int .u8 (r.kind:Int)]++(aV r.obj ++ [.int .i64 r.aH,.int .u64 (r.inc:Int),.int .u64 (r.num:Int),.bool r.held,.int .i64 r.k,.int .i64 r.n]) from rfl) rfl w.obj.2
 rw [w.obj.1] at this
 exact this
theorem is67:cd Tryd.prog 67 Tryd.f67:=⟨by kernel_rfl,by kernel_rfl,by kernel_rfl,by kernel_rfl⟩
theorem is59:cd Tryd.prog 59 Tryd.f59:=⟨by kernel_rfl,by kernel_rfl,by kernel_rfl,by kernel_rfl⟩
set_option maxRecDepth 100000 in
theorem r59 {h:ab} (hG:4≤h.n0) {r:ao} (w:r.Wf) : ∃ h',CW 59 [.agg (recC r).toArray] h=some (.string (strOf (keyB r)),h')∧Old h h':=by
 obtain ⟨h1,b1,o1,g1,n1⟩:=dG h w
 have A1:=r_ld w g1
 have ha:=arr32 h.next 1
 have c9:=fj (c:=32) (obj_sl w g1)
 have cv1:=cv8i .i64 r.aH h1
 have b5:=bsl1 h1 r.kind
 have ka:Old h1 (h1.alloc [u8 r.kind]):=Kept.alloc _ _ _
 have c6:=fj (c:=1) (bytes1 h1 w.kind)
 have s1:bin Tryd.prog .add 9 (.string (strOf [r.kind])) (.string (strOf r.obj))=some (.string (strOf ([r.kind]++r.obj))):=add_str _ _ (by simp [w.obj.1])
 have b14:=bsl1 (h1.alloc [u8 r.kind]) (i8 r.aH)
 have kb:Old (h1.alloc [u8 r.kind]) ((h1.alloc [u8 r.kind]).alloc [u8 (i8 r.aH)]):=Kept.alloc _ _ _
 have c15:=fj (c:=1) (bytes1 (h1.alloc [u8 r.kind]) (i8_lt r.aH))
 have s2:bin Tryd.prog .add 9 (.string (strOf ([r.kind]++r.obj))) (.string (strOf [i8 r.aH]))=some (.string (strOf (keyB r))):=add_str _ _ (by simp [w.obj.1])
 have nx:(h1.alloc [u8 r.kind]).next=h1.next+1:=ab.cn ..
 have gp:((h1.alloc [u8 r.kind]).alloc [u8 (i8 r.aH)]).aF (h1.alloc [u8 r.kind]).next=some (.cells [u8 (i8 r.aH)]):=by rw [ab.cA,if_pos rfl]
 have pl:cvBS (.slice (some ⟨(h1.alloc [u8 r.kind]).next,0,none⟩) 1 1) (ab.plus true h1 (h1.alloc [u8 r.kind]) ((h1.alloc [u8 r.kind]).alloc [u8 (i8 r.aH)]))=some (.string (strOf [i8 r.aH]),ab.plus true h1 (h1.alloc [u8 r.kind]) ((h1.alloc [u8 r.kind]).alloc [u8 (i8 r.aH)])):=by
  have g:=plus_get (h:=h1) gp (by omega)
  have e:=cK (off:=0) (n:=1) (s:=none) (l := [i8 r.aH]) g (by simp) (fun x hx=>by
   simp only [List.mem_cons,List.not_mem_nil,or_false] at hx
   subst hx
   exact i8_lt _)
  exact fj e
 refine ⟨_,aC is59 hG rfl ((t59_eq _ _ _).trans ?_),(o1.trans ka).trans kb⟩
 unfold t59
 simp -implicitDefEqProofs only [b1, A1.l0, A1.l33, ha, c9, cv1, b5, c6, s1, b14, c15, s2, pl, chkS, ad, af, aB, Nat.zero_add, Bool.and_true]
end Go.Proofs.YtdnahgfgoajmcaaDoor

namespace Go.Proofs.YtdnahgfgoajmcaaDoor
open Go Go.Abs
attribute [local congr] aq
theorem app_cap {h:ab} {b len cap n c:Nat} {s:Option Nat} {a:Option Addr} {A B C:List Value} {l:List Nat} (g:h.get b=some (A++(B++C))) (h0:h.n0≤b) (hA:A.length=len) (hB:B.length=n) (hs:au a n h=some l) (hn:0<n) (hc:len+n≤cap) (hk:len+n≤1000000) :
  ∃ g',aD 1 1 (.slice (some ⟨b,0,s⟩) len cap) (.slice a n c) h=some (.slice (some ⟨b,0,s⟩) (len+n) cap,g')∧Kept h g' (· = b)∧g'.get b=some (A++(aV l++C))∧g'.next=h.next:=by
 obtain ⟨hl,hb,_⟩:=aE hs
 have hf:=gD hs (Nat.le_refl n) (c:=c)
 rw [List.take_of_length_le (by omega)] at hf
 have hsp:bK (A++(B++C)) len (aV l)=A++(aV l++C):=splice_app hA hB (by rw [List.length_map];exact hl)
 refine ⟨h.set b (A++(aV l++C)),?_,Kept.set h0 g (.inr rfl),ab.eD h0 g _,rfl⟩
 unfold aD
 simp only [lenA,hf]
 have c1:(!(aJ (l.map u8)) || !(decide ((len+n)*1≤140737488355328)) || !(decide (len+n≤4611686018427387904))||decide ((l.map u8).length≠n*1))=false:=by
  rw [one_u8,decide_eq_true (by omega),decide_eq_true (by omega),decide_eq_false (by simp;omega)];rfl
 rw [if_neg (by rw [c1];decide),if_pos hc,if_neg (by omega)]
 unfold stL
 rw [Nat.zero_add,Nat.mul_one]
 simp only [g]
 rw [if_pos (by
  have h1:len+(aV l).length≤(A++(B++C)).length:=by rw [List.length_append,List.length_append,List.length_map,hA,hB];omega
  simp only [decide_eq_true h0,decide_eq_true h1,(u8s_ok l).2,Bool.and_self]),hsp]
 rfl
set_option maxRecDepth 100000 in
theorem r67 {h:ab} (hG:4≤h.n0) {r:ao} (w:r.Wf) : ∃ a c h',CW 67 [.agg (recC r).toArray] h=some (.slice a 34 c,h')∧au a 34 h'=some (keyB r)∧Old h h':=by
 obtain ⟨h1,b1,o1,g1,n1⟩:=dG h w
 have m4:mkR 1 1 (.int .u8 0) (.int .i64 0) (.int .i64 34) h1=some (.slice (some ⟨h1.next,0,none⟩) 0 34,h1.alloc (dx [(.int .u8 0)] 34)):=rfl
 have o2:Old h1 (h1.alloc (dx [(.int .u8 0)] 34)):=Kept.alloc _ _ _
 have g2:(h1.alloc (dx [(.int .u8 0)] 34)).get h1.next=some ([]++([.int .u8 0]++(List.replicate 33 (.int .u8 0)))):=by rw [ab.aK,if_pos rfl];rfl
 have n2:(h1.alloc (dx [(.int .u8 0)] 34)).next=h1.next+1:=ab.cn ..
 generalize h1.alloc (dx [(.int .u8 0)] 34)=h2 at *
 have G2:=Old.get o2 g1
 have A2:=r_ld w G2
 have b3:=bsl1 h2 r.kind
 have o3:Old h2 (h2.alloc [u8 r.kind]):=Kept.alloc _ _ _
 have s3:=bytes1 h2 w.kind
 have n3:(h2.alloc [u8 r.kind]).next=h2.next+1:=ab.cn ..
 generalize h2.alloc [u8 r.kind]=h3 at *
 have p1:h2.n0≤h1.next:=by rw [o2.n0];exact h1.ax
 have p3:h3.n0≤h1.next:=by rw [o3.n0];exact p1
 obtain ⟨h4,e4,k4,g4,n4⟩:=app_cap (cap:=34) (s:=none) (c:=1) (len:=0) (Old.get o3 g2) p3 rfl rfl s3 (by decide) (by decide) (by decide)
 have hne : ¬(h.next=h1.next):=by omega
 have G4:h4.get h.next=some (recC r):=Kept.dX k4 (Old.get o3 G2) hne
 have A4:=r_ld w G4
 have ha:=arr32 h.next 1
 have p4:h4.n0≤h1.next:=by rw [k4.n0];exact p3
 have g4:h4.get h1.next=some (aV [r.kind]++(List.replicate 32 (.int .u8 0) ++ [.int .u8 0])):=g4.trans rfl
 obtain ⟨h5,e5,k5,g5,n5⟩:=app_cap (cap:=34) (s:=none) (c:=32) (len:=1) g4 p4 rfl rfl (obj_sl w G4) (by decide) (by decide) (by decide)
 have G5:h5.get h.next=some (recC r):=Kept.dX k5 G4 hne
 have A5:=r_ld w G5
 have cv1:=cv8i .i64 r.aH h5
 have b6:=bsl1 h5 (i8 r.aH)
 have o6:Old h5 (h5.alloc [u8 (i8 r.aH)]):=Kept.alloc _ _ _
 have s6:=bytes1 h5 (i8_lt r.aH)
 generalize h5.alloc [u8 (i8 r.aH)]=h6 at *
 have p6:h6.n0≤h1.next:=by rw [o6.n0,k5.n0];exact p4
 have g5:h5.get h1.next=some ((aV [r.kind]++aV r.obj)++([.int .u8 0] ++ [])):=by rw [g5];simp
 obtain ⟨h7,e7,k7,g7,n7⟩:=app_cap (cap:=34) (s:=none) (c:=1) (len:=33) (Old.get o6 g5) p6 (by simp [w.obj.1]) rfl s6 (by decide) (by decide) (by decide)
 have O3:Old h h3:=(o1.trans o2).trans o3
 have hd:h.next≤h1.next:=by omega
 have O4:Old h h4:=Old.bA O3 k4 hd
 have O5:Old h h5:=Old.bA O4 k5 hd
 have O7:Old h h7:=Old.bA (O5.trans o6) k7 hd
 have g7:h7.get h1.next=some (aV (keyB r)):=by rw [g7];simp [keyB]
 refine ⟨some ⟨h1.next,0,none⟩,34,h7,aC is67 hG rfl ((t67_eq _ _ _).trans ?_),?_,O7⟩
 ·unfold t67
  have e4:aD 1 1 (.slice (some ⟨h1.next,0,none⟩) 0 34) (.slice (some ⟨h2.next,0,none⟩) 1 1) h3=some (.slice (some ⟨h1.next,0,none⟩) 1 34,h4):=e4
  have e5:aD 1 1 (.slice (some ⟨h1.next,0,none⟩) 1 34) (.slice (some ⟨h.next,1,none⟩) 32 32) h4=some (.slice (some ⟨h1.next,0,none⟩) 33 34,h5):=e5
  have e7:aD 1 1 (.slice (some ⟨h1.next,0,none⟩) 33 34) (.slice (some ⟨h5.next,0,none⟩) 1 1) h6=some (.slice (some ⟨h1.next,0,none⟩) 34 34,h7):=e7
  simp -implicitDefEqProofs only [b1, m4, A2.l0, b3, e4, ha, e5, A5.l33, cv1, b6, e7, ad, af, aB, Nat.zero_add]
 ·have:=cK (off:=0) (n:=34) (s:=none) g7 (by rw [keyB_len w];decide) (keyB_bys w)
  rw [this,List.drop_zero,List.take_of_length_le (by rw [keyB_len w];decide)]
end Go.Proofs.YtdnahgfgoajmcaaDoor

namespace Go.Proofs.YtdnahgfgoajmcaaDoor
open Go Go.Abs
attribute [local congr] aq
def gx (a b:Int):Int:=if a<b then -1 else if b<a then 1 else 0
def orL:List Int→Int
 | []=>0
 |x::l=>if x=0 then orL l else x
theorem is137:cd Tryd.prog 137 Tryd.f137:=⟨by kernel_rfl,by kernel_rfl,by kernel_rfl,by kernel_rfl⟩
theorem is138:cd Tryd.prog 138 Tryd.f138:=⟨by kernel_rfl,by kernel_rfl,by kernel_rfl,by kernel_rfl⟩
theorem is115:cd Tryd.prog 115 Tryd.f115:=⟨by kernel_rfl,by kernel_rfl,by kernel_rfl,by kernel_rfl⟩
theorem is116:cd Tryd.prog 116 Tryd.f116:=⟨by kernel_rfl,by kernel_rfl,by kernel_rfl,by kernel_rfl⟩
theorem is114:cd Tryd.prog 114 Tryd.f114:=⟨by kernel_rfl,by kernel_rfl,by kernel_rfl,by kernel_rfl⟩
theorem is63:cd Tryd.prog 63 Tryd.f63:=⟨by kernel_rfl,by kernel_rfl,by kernel_rfl,by kernel_rfl⟩
theorem is62:cd Tryd.prog 62 Tryd.f62:=⟨by kernel_rfl,by kernel_rfl,by kernel_rfl,by kernel_rfl⟩
theorem r137 {h:ab} (hG:4≤h.n0) (a:Int):CW 137 [.int .u64 a] h=some (.bool false,h):=by
 refine aC is137 hG rfl ((t137_eq _ _ _).trans ?_)
 unfold t137
 simp -implicitDefEqProofs only [a7,bne_self_eq_false,ad,af]
theorem r138 {h:ab} (hG:4≤h.n0) (a:Int):CW 138 [.int .i64 a] h=some (.bool false,h):=by
 refine aC is138 hG rfl ((t138_eq _ _ _).trans ?_)
 unfold t138
 simp -implicitDefEqProofs only [a7,bne_self_eq_false,ad,af]
theorem r115 {h:ab} (hG:4≤h.n0) (a b:Int):CW 115 [.int .u64 a,.int .u64 b] h=some (.int .i64 (gx a b),h):=by
 refine aC is115 hG rfl ((t115_eq _ _ _ _).trans ?_)
 unfold t115 gx
 simp -implicitDefEqProofs only [r137 hG,bG,bp,ad,af]
 by_cases h1:a<b
 ·simp -implicitDefEqProofs only [decide_eq_true h1, if_pos h1]
 ·simp -implicitDefEqProofs only [decide_eq_false h1, if_neg h1]
  by_cases h2:b<a
  ·have h2':a>b:=h2
   simp -implicitDefEqProofs only [decide_eq_true h2', if_pos h2]
  ·have h2' : ¬a>b:=h2
   simp -implicitDefEqProofs only [decide_eq_false h2', if_neg h2]
theorem r116 {h:ab} (hG:4≤h.n0) (a b:Int):CW 116 [.int .i64 a,.int .i64 b] h=some (.int .i64 (gx a b),h):=by
 refine aC is116 hG rfl ((t116_eq _ _ _ _).trans ?_)
 unfold t116 gx
 simp -implicitDefEqProofs only [r138 hG,bG,bp,ad,af]
 by_cases h1:a<b
 ·simp -implicitDefEqProofs only [decide_eq_true h1, if_pos h1]
 ·simp -implicitDefEqProofs only [decide_eq_false h1, if_neg h1]
  by_cases h2:b<a
  ·have h2':a>b:=h2
   simp -implicitDefEqProofs only [decide_eq_true h2', if_pos h2]
  ·have h2' : ¬a>b:=h2
   simp -implicitDefEqProofs only [decide_eq_false h2', if_neg h2]
theorem results114:Tryd.f114.results.toList = [.tmp 2]:=by kernel_rfl
theorem r114 {h:ab} (hG:4≤h.n0) {b:Nat} {vs:List Int} (hl:vs.length=5) (g:h.get b=some (vs.map (.int .i64))):CW 114 [.slice (some ⟨b,0,none⟩) 5 5] h=some (.int .i64 (orL vs),h):=by
 have hll:cN (.slice (some ⟨b,0,none⟩) 5 5)=some (ak 5):=rfl
 refine aC is114 hG rfl ((t114_eq _ _ _).trans ?_)
 unfold t114
 simp -implicitDefEqProofs only [hll,ad,af]
 refine bO (n:=18) (fin:=fun ex y g=>g=h∧((ex = .ret∧y 2 = .int .i64 (orL vs))∨(ex = .exit 0∧y 3 = .int .i64 0∧orL vs=0))) (Q:=fun o:Out=>o=some (Value.int .i64 (orL vs),h))
  (bP (t114l114_11010_eq CW) (Inv:=fun k y g => ∃ i,i+k=5∧y 3 = .int .i64 0∧y 6 = .slice (some ⟨b,0,none⟩) 5 5∧y 7=ak 5∧y 8=ak i∧g=h∧orL vs=orL (vs.drop i)) ?_ 5 (by have:rounds=18446744073709551616:=rfl;omega) ⟨0,Nat.zero_add _,rfl,rfl,rfl,rfl,rfl,rfl⟩) ?_
 ·rintro k y g' ⟨i,hik,y3,y6,y7,y8,rfl,ho⟩
  unfold t114l114_11010
  simp -implicitDefEqProofs only [y3,y6,y7,y8,lss3]
  by_cases hi:i<5
  ·have hx:df 1 (.slice (some ⟨b,0,none⟩) 5 5) (ak i)=some (ptr b i):=by
    unfold df
    simp only []
    rw [if_pos (by omega),Int.toNat_natCast,Nat.mul_one,Nat.zero_add]
   have hv:vs[i]? = some vs[i]:=List.getElem?_eq_getElem (by omega)
   have hd:ld1 (ptr b i) g'=some (.int .i64 vs[i],g'):=aQ g (by rw [List.getElem?_map,hv];rfl) rfl
   have hdr:vs.drop i=vs[i]::vs.drop (i+1):=List.drop_eq_getElem_cons (by omega)
   by_cases hz:vs[i]=0
   ·have hb:(vs[i] != 0)=false:=by rw [hz];rfl
    simp -implicitDefEqProofs only [decide_eq_true hi, hx, hd, a7, hb, fc (show i+1≤9223372036854775807 by omega), ad, af]
    refine dU.next (k-1) (by omega) ⟨i+1,by omega,y3,y6,y7,rfl,rfl,?_⟩
    rw [ho,hdr,orL,if_pos hz]
   ·have hb:(vs[i] != 0)=true:=by simpa using hz
    simp -implicitDefEqProofs only [decide_eq_true hi, hx, hd, a7, hb, ad, af]
    refine dU.ret ⟨rfl,.inl ⟨rfl,?_⟩⟩
    rw [ho,hdr,orL,if_neg hz]
    rfl
  ·simp -implicitDefEqProofs only [decide_eq_false hi,ad,af]
   refine dU.out 0 ⟨rfl,.inr ⟨rfl,y3,?_⟩⟩
   rw [ho,List.drop_eq_nil_of_le (by omega)]
   rfl
 ·rintro ex z g' ⟨rfl,⟨rfl,z2⟩|⟨rfl,z3,hz⟩⟩
  ·rw [endL_ret,res_one results114 (by decide),z2]
  ·simp -implicitDefEqProofs only [bB,b114_4,if_true,t114k114_2_eq]
   unfold t114k114_2
   rw [z3,hz]
   rfl
theorem fill_int {A C:List Value} {o:Nat} {x:Value} {k:IntKind} {n:Int} {rest:List (Nat×Nat×Value)} (hA:A.length=o):dt (A++([x]++C)) ((o,1,.int k n)::rest)=dt (A++([.int k n]++C)) rest:=by
 have hc:(Value.int k n).cells = #[.int k n]:=rfl
 simp only [dt,hc]
 rw [if_pos (by
  have:o+1≤(A++([x]++C)).length:=by rw [List.length_append,List.length_append,hA];simp
  simp only [decide_eq_true this]
  rfl),splice_app (B := [x]) (B' := [.int k n]) (C:=C) hA rfl rfl]
theorem chkF (r:Out) (v:Value):bN false r v=true:=rfl
theorem veqL_self : ∀ {l:List Value},(∀ v∈l,∃ k:Kd,k.has v)→veqL l l=true
 | [],_=>rfl
 |v::l,h=>by
  simp only [veqL,Bool.and_eq_true]
  refine ⟨?_,veqL_self fun w hw=>h w (List.mem_cons_of_mem _ hw)⟩
  obtain ⟨k,hk⟩:=h v List.mem_cons_self
  cases k with
  |u8=>obtain ⟨n,rfl,_⟩:=hk;simp [veq]
  |i k=>obtain ⟨n,rfl,_⟩:=hk;simp [veq]
  |b=>obtain ⟨t,rfl⟩:=hk;simp [veq]
theorem Typed.kinds {ks:List Kd} {cs:List Value} (h:Typed ks cs) : ∀ v∈cs,∃ k:Kd,k.has v:=by
 intro v hv
 obtain ⟨j,hj⟩:=List.mem_iff_getElem?.1 hv
 have hlt:=(List.getElem?_eq_some_iff.1 hj).1
 rw [h.1] at hlt
 obtain ⟨w,hw,hk⟩:=h.2 j _ (List.getElem?_eq_getElem hlt)
 rw [hj] at hw
 cases hw
 exact ⟨_,hk⟩
theorem chk_agg (l:List Value) (g:ab) (h : ∀ v∈l,∃ k:Kd,k.has v):bN true (some (.agg l.toArray,g)) (.agg l.toArray)=true:=by
 show (!true||veq (.agg ⟨l⟩) (.agg ⟨l⟩))=true
 simp only [Bool.not_true,Bool.false_or,veq]
 exact veqL_self h
def cmpR (a b:ao):Int:=orL [gx a.inc b.inc,gx a.num b.num,(if a.held=b.held then 0 else if a.held then 1 else -1),gx a.k b.k,gx a.n b.n]
theorem bsl5 (h:ab) (a b c d e:Int):cO 1 (.int .i64 0) 5 [(0,.int .i64 a),(1,.int .i64 b),(2,.int .i64 c),(3,.int .i64 d),(4,.int .i64 e)] h=some (.slice (some ⟨h.next,0,none⟩) 5 5,h.alloc ([a,b,c,d,e].map (.int .i64))):=rfl
theorem neq_bool (a b:Bool):bin Tryd.prog .neq 4 (.bool a) (.bool b)=some (.bool (a != b)):=by cases a<;>cases b<;>kernel_rfl
set_option maxRecDepth 100000 in
theorem r63 {h:ab} (hG:4≤h.n0) {a b:ao} (wa:a.Wf) (wb:b.Wf) : ∃ h',CW 63 [.agg (recC a).toArray,.agg (recC b).toArray] h=some (.int .i64 (cmpR a b),h')∧Old h h':=by
 obtain ⟨h1,b1,o1,g1,n1⟩:=dG h wa
 obtain ⟨h2,b2,o2,g2,n2⟩:=dG h1 wb
 have A:=r_ld wa (o2.get g1)
 have B:=r_ld wb g2
 have G2:4≤h2.n0:=by rw [o2.n0,o1.n0];exact hG
 have G3 : ∀ k:Blk,4≤(h2.alloc k).n0:=fun k=>G2
 have e14:=fun c:Int=>r114 (h:=h2.alloc ([gx a.inc b.inc,gx a.num b.num,c,gx a.k b.k,gx a.n b.n].map (.int .i64))) (G3 _) (b:=h2.next) (vs := [gx a.inc b.inc,gx a.num b.num,c,gx a.k b.k,gx a.n b.n]) rfl (by rw [ab.aK,if_pos rfl])
 have o3:=fun c:Int=>(show Old h2 (h2.alloc ([gx a.inc b.inc,gx a.num b.num,c,gx a.k b.k,gx a.n b.n].map (.int .i64))) from Kept.alloc _ _ _)
 unfold cmpR
 cases qa:a.held<;>cases qb:b.held
 ·refine ⟨_,aC is63 hG rfl ((t63_eq _ _ _ _).trans ?_),(o1.trans o2).trans (o3 0)⟩
  unfold t63
  simp -implicitDefEqProofs only [b1,b2,aB,Nat.zero_add,A.l36,B.l36,A.l34,B.l34,A.l35,B.l35,A.l37,B.l37,A.l38,B.l38,qa,qb,neq_bool,bne_self_eq_false,r115 G2,r116 G2,bsl5,e14,chkI,Bool.and_self,Bool.and_true,ad,af,if_true]
 ·refine ⟨_,aC is63 hG rfl ((t63_eq _ _ _ _).trans ?_),(o1.trans o2).trans (o3 (-1))⟩
  unfold t63
  simp -implicitDefEqProofs only [b1, b2, aB, Nat.zero_add, A.l36, B.l36, A.l34, B.l34, A.l35, B.l35, A.l37, B.l37, A.l38, B.l38, qa, qb, neq_bool, show (false != true)=true from rfl, r115 G2, r116 G2, bsl5, e14, chkI, Bool.and_self, Bool.and_true, ad, af]
  rfl
 ·refine ⟨_,aC is63 hG rfl ((t63_eq _ _ _ _).trans ?_),(o1.trans o2).trans (o3 1)⟩
  unfold t63
  simp -implicitDefEqProofs only [b1,b2,aB,Nat.zero_add,A.l36,B.l36,A.l34,B.l34,A.l35,B.l35,A.l37,B.l37,A.l38,B.l38,qa,qb,neq_bool,show (true != false)=true from rfl,r115 G2,r116 G2,bsl5,e14,chkI,Bool.and_self,Bool.and_true,ad,af,if_true]
  rfl
 ·refine ⟨_,aC is63 hG rfl ((t63_eq _ _ _ _).trans ?_),(o1.trans o2).trans (o3 0)⟩
  unfold t63
  simp -implicitDefEqProofs only [b1,b2,aB,Nat.zero_add,A.l36,B.l36,A.l34,B.l34,A.l35,B.l35,A.l37,B.l37,A.l38,B.l38,qa,qb,neq_bool,bne_self_eq_false,r115 G2,r116 G2,bsl5,e14,chkI,Bool.and_self,Bool.and_true,ad,af,if_true]
def atC (r:ao):List Value := .int .u8 (r.kind:Int)::(aV r.obj ++ [.int .i64 r.aH])
def atK:List Kd := .u8::(List.replicate 32 .u8 ++ [.i .i64])
theorem at_typed {r:ao} (h:r.Wf):Typed atK (atC r):=(Typed.one (k := .u8) ⟨_,rfl,h.kind⟩).app ((cF h.obj).app (Typed.one (k := .i .i64) ⟨_,rfl,wf_i64.2 h.aH⟩))
abbrev zat:List Value := [(.int .u8 0),(.int .u8 0),(.int .u8 0),(.int .u8 0),(.int .u8 0),(.int .u8 0),(.int .u8 0),(.int .u8 0),(.int .u8 0),(.int .u8 0),(.int .u8 0),(.int .u8 0),(.int .u8 0),(.int .u8 0),(.int .u8 0),(.int .u8 0),(.int .u8 0),(.int .u8 0),(.int .u8 0),(.int .u8 0),(.int .u8 0),(.int .u8 0),(.int .u8 0),(.int .u8 0),(.int .u8 0),(.int .u8 0),(.int .u8 0),(.int .u8 0),(.int .u8 0),(.int .u8 0),(.int .u8 0),(.int .u8 0),(.int .u8 0),(.int .i64 0)]
theorem bld_at {r:ao} (w:r.Wf):eW zat [(0,1,.int .u8 (r.kind:Int)),(1,32,.agg (aV r.obj).toArray),(33,1,.int .i64 r.aH)]=some (.agg (atC r).toArray):=by
 have e:dt zat [(0,1,.int .u8 (r.kind:Int)),(1,32,.agg (aV r.obj).toArray),(33,1,.int .i64 r.aH)]=dt ([.int .u8 (r.kind:Int)]++(aV z32 ++ [.int .i64 0])) [(1,32,.agg (aV r.obj).toArray),(33,1,.int .i64 r.aH)]:=rfl
 unfold eW
 rw [e,fill_mid (A := [.int .u8 (r.kind:Int)]) (B:=aV z32) (o:=1) (n:=32) rfl rfl rfl (by rw [List.length_map];exact w.obj.1)]
 have e2:dt ([.int .u8 (r.kind:Int)]++(aV r.obj ++ [.int .i64 0])) [(33,1,.int .i64 r.aH)]=some (atC r):=by
  have e3:([.int .u8 (r.kind:Int)]++(aV r.obj ++ [Value.int .i64 0]))=(([.int .u8 (r.kind:Int)]++aV r.obj)++([Value.int .i64 0] ++ [])):=by simp
  rw [e3,fill_int (by simp [w.obj.1])]
  show some _=some _
  simp [atC]
 rw [e2]
 rfl
theorem atC_len {r:ao} (w:r.Wf):(atC r).length=34:=(at_typed w).1
theorem agg101:aggT Tryd.prog 101=some true:=by kernel_rfl
theorem siz101:cz Tryd.prog 101=some 34:=by kernel_rfl
theorem results62:Tryd.f62.results.toList = [.cell 2 101]:=by kernel_rfl
theorem cW {rs:List ResultVar} {n k t z:Nat} (hr:rs = [.cell k t]) (h1:aggT Tryd.prog t=some true) (h2:cz Tryd.prog t=some z) (hk:k<n) (x:Nat→Value) {h:ab} {v:Value} (e:cT z (x k) h=some (v,h)):aj Tryd.prog rs (aO n x) h=some (v,h):=by
 subst hr
 simp only [aj,fh,getD_mkF hk,ld_agg h1 h2,e]
 rfl
set_option maxRecDepth 100000 in
theorem r62 {h:ab} (hG:4≤h.n0) {r:ao} (w:r.Wf) : ∃ h',CW 62 [.agg (recC r).toArray] h=some (.agg (atC r).toArray,h')∧Old h h':=by
 obtain ⟨h1,b1,o1,g1,n1⟩:=dG h w
 obtain ⟨h2,z2,o2,g2,n2⟩:=fresh zat h1
 have A:=r_ld w (o2.get g1)
 have ta:=at_typed w
 obtain ⟨h3,e3,k3,g3,_,_⟩:=aS (n:=34) (k':=atC r) g2 (by rw [o2.n0];exact h1.ax) rfl (atC_len w) ta.all.2.1
 have o3:Old h1 h3:=Old.bA o2 k3 (Nat.le_refl _)
 have l3:=bh g3 (atC_len w) ta.all.1
 refine ⟨h3,aC is62 hG rfl ((t62_eq _ _ _).trans ?_),o1.trans o3⟩
 unfold t62
 simp -implicitDefEqProofs only [b1,z2,aB,Nat.zero_add,A.l0,A.l1,A.l33,bld_at w,e3,ad,af]
 exact cW results62 agg101 siz101 (show 2<10 by decide) _ l3
theorem at_at {x y:Value} {o:List Value} (ho:o.length=32):(x::(o ++ [y])).toArray[33]? = some y:=by
 rw [List.getElem?_toArray,show 33=32+1 from rfl,List.getElem?_cons_succ,List.getElem?_append_right (by omega),ho]
 rfl
def atB (a b:ao):Bool:=decide (a.kind=b.kind)&&(decide (a.obj=b.obj)&&decide (a.aH=b.aH))
def newerB (a b:ao):Bool:=dK a&&(dK b&&(atB a b&&decide (cmpR a b>0)))
end Go.Proofs.YtdnahgfgoajmcaaDoor

namespace Go.Proofs.YtdnahgfgoajmcaaDoor
open Go Go.Abs
attribute [local congr] aq
theorem agg35:aggT Tryd.prog 35=some true:=by kernel_rfl
theorem aW {l:List Nat} (h:gz l):(aV l).length=32∧Abs.bJ (aV l)=true∧aJ (aV l)=true:=by
 have t:=cF h
 exact ⟨t.1,t.all.1,t.all.2.1⟩
theorem eqD35 {a b:List Nat} (wa:gz a) (wb:gz b):bin Tryd.prog .eql 35 (.agg (aV a).toArray) (.agg (aV b).toArray)=some (.bool (decide (a=b))):=by
 obtain ⟨r,hr,hrun⟩:=dig_run (d:=9998) (cF wa) (cF wb)
 have hr':r=decide (a=b):=by
  by_cases e:a=b
  ·rw [decide_eq_true e,hr.2 (by rw [e])]
  ·rw [decide_eq_false e]
   cases r with
   |false=>rfl
   |true=>exact absurd (u8s_inj (hr.1 rfl)) e
 rw [←hr']
 exact (bin_agg (by kernel_rfl) (dg (cF wa).all.2.2) (dg (cF wb).all.2.2) hrun).1
theorem fs_size:Nat.ble 120 Tryd.prog.funcs.size=true:=by kernel_rfl
theorem XX_yid (L:Nat) (args:List Value) (h:ab):XX (yid Tryd.prog L) args h=none:=by
 have e:=Nat.le_of_ble_eq_true fs_size
 show callL XL (Tryd.prog.funcs.size+L) args h=none
 generalize Tryd.prog.funcs.size=n at e
 unfold callL
 rw [if_neg (show ¬n+L=(14:Nat) by omega)]
 unfold callL
 rw [if_neg (show ¬n+L=(119:Nat) by omega)]
 rfl
theorem CW_yield {L:Nat} {args:List Value} {h:ab} {r:Value×ab} (hG:4≤h.n0) (e:fq Tryd.prog CW L args h=some r):CW (yid Tryd.prog L) args h=some r:=
 CC_round (by rw [globals4];exact hG) (XX_yid L args h) e
def RSl (h:ab) (v:Value) (L:List ao):Prop:=
 (∃ a c,v = .slice a L.length c)∧(∀ r∈L,r.Wf) ∧ ∀ j,j<L.length → ∃ b o,df 39 v (ak j)=some (ptr b o)∧b<h.next ∧ ∀ g:ab,g.get b=h.get b→cT 39 (ptr b o) g=some (.agg (recC (L.getD j ao.z)).toArray,g)
def gR (v:Value):Prop := ∃ a n c,v = .slice a n c∧n≤c∧(0<n → ∀ b o s,a=some ⟨b,o,some s⟩→s=39)
theorem RSl.mono {h h':ab} {v:Value} {L:List ao} (x:RSl h v L) (o:Old h h'):RSl h' v L:=by
 refine ⟨x.1,x.2.1,fun j hj => ?_⟩
 obtain ⟨b,q,h1,h2,h3⟩:=x.2.2 j hj
 have hb:h'.get b=h.get b:=Kept.get o b h2 (fun h=>h)
 exact ⟨b,q,h1,Nat.lt_of_lt_of_le h2 o.next,fun g e=>h3 g (e.trans hb)⟩
theorem RSl.len {h:ab} {v:Value} {L:List ao} (x:RSl h v L):cN v=some (ak L.length):=by
 obtain ⟨⟨a,c,rfl⟩,_,_⟩:=x
 rfl
theorem RSl.at {h:ab} {v:Value} {L:List ao} (x:RSl h v L) {j:Nat} (hj:j<L.length) : ∃ b o,df 39 v (ak j)=some (ptr b o)∧(L.getD j ao.z).Wf∧L.getD j ao.z∈L ∧ ∀ g:ab,Old h g→cT 39 (ptr b o) g=some (.agg (recC (L.getD j ao.z)).toArray,g):=by
 obtain ⟨b,q,h1,h2,h3⟩:=x.2.2 j hj
 have hm:L.getD j ao.z∈L:=by
  rw [List.getD_eq_getElem?_getD,List.getElem?_eq_getElem hj]
  exact List.getElem_mem hj
 exact ⟨b,q,h1,x.2.1 _ hm,hm,fun g og=>h3 g (Kept.get og b h2 (fun h=>h))⟩
theorem bnd_hi {n c k:Nat} (h:k≤n) (hc:n≤c):cm n c none (some (ak k)) none=some (0,k,c):=by
 have a1:bE c c none=some c:=rfl
 have a2:bE n c (some (ak k))=some k:=by
  unfold bE ak
  simp only
  rw [if_pos (by omega)]
  rfl
 unfold cm
 rw [a1]
 simp only [a2]
 rfl
theorem bnd_lo {n c k:Nat} (h:k≤n) (_hc:n≤c):cm n c (some (ak k)) none none=some (k,n,c):=by
 have a1:bE c c none=some c:=rfl
 have a2:bE n c none=some n:=rfl
 have a3:bE 0 n (some (ak k))=some k:=by
  unfold bE ak
  simp only
  rw [if_pos (by omega)]
  rfl
 unfold cm
 rw [a1]
 simp only [a2,a3]
theorem RSl.take {h:ab} {v:Value} {L:List ao} (x:RSl h v L) (g:gR v) {k:Nat} (hk:k<L.length) : ∃ v',slR 39 v none (some (ak k)) none=some v'∧RSl h v' (L.take k)∧gR v':=by
 obtain ⟨⟨a,c,rfl⟩,hd,hp⟩:=x
 obtain ⟨a',n',c',e,hle,hs⟩:=g
 cases e
 obtain ⟨b0,o0,e0,_⟩:=hp 0 (by omega)
 cases a with
 |none=>cases e0
 |some A=>
  obtain ⟨b,off,sp⟩:=A
  have hb:=bnd_hi (c:=c) (Nat.le_of_lt hk) hle
  have lt:(L.take k).length=k:=by rw [List.length_take];omega
  refine ⟨.slice (some ⟨b,off,sp⟩) k c,?_,⟨⟨_,_,by rw [lt]⟩,fun q hq=>hd q (List.mem_of_mem_take hq),fun j hj => ?_⟩,⟨_,_,_,rfl,by omega,fun _=>hs (by omega)⟩⟩
  ·unfold slR dP
   cases sp with
   |none=>
    simp only [hb]
    rw [if_neg (by omega),Nat.zero_mul,Nat.add_zero,Nat.sub_zero,Nat.sub_zero]
   |some s=>
    have:s=39:=hs (by omega) b off s rfl
    subst this
    simp only [hb]
    rw [if_pos ⟨True.intro,by decide⟩,Nat.zero_mul,Nat.add_zero,Nat.sub_zero,Nat.sub_zero]
  ·rw [lt] at hj
   obtain ⟨b1,o1,e1,e2,e3⟩:=hp j (by omega)
   have e4:(L.take k).getD j ao.z=L.getD j ao.z:=by
    rw [List.getD_eq_getElem?_getD,List.getD_eq_getElem?_getD,List.getElem?_take,if_pos hj]
   rw [e4]
   refine ⟨b1,o1,?_,e2,e3⟩
   rw [←e1]
   unfold df ak
   simp only
   rw [if_pos (by omega),if_pos (by omega)]
theorem RSl.drop {h:ab} {v:Value} {L:List ao} (x:RSl h v L) (g:gR v) {k:Nat} (hk:k<L.length) : ∃ v',slR 39 v (some (ak k)) none none=some v'∧RSl h v' (L.drop k)∧gR v':=by
 obtain ⟨⟨a,c,rfl⟩,hd,hp⟩:=x
 obtain ⟨a',n',c',e,hle,hs⟩:=g
 cases e
 obtain ⟨b0,o0,e0,_⟩:=hp 0 (by omega)
 cases a with
 |none=>cases e0
 |some A=>
  obtain ⟨b,off,sp⟩:=A
  have hb:=bnd_lo (c:=c) (Nat.le_of_lt hk) hle
  have lt:(L.drop k).length=L.length-k:=List.length_drop
  refine ⟨.slice (some ⟨b,off+k*39,sp⟩) (L.length-k) (c-k),?_,⟨⟨_,_,by rw [lt]⟩,fun q hq=>hd q (List.mem_of_mem_drop hq),fun j hj => ?_⟩,⟨_,_,_,rfl,by omega,fun _ b' o' s' e=>by cases e;exact hs (by omega) b off s' rfl⟩⟩
  ·unfold slR dP
   cases sp with
   |none=>
    simp only [hb]
    rw [if_neg (by omega)]
   |some s=>
    have:s=39:=hs (by omega) b off s rfl
    subst this
    simp only [hb]
    rw [if_pos ⟨True.intro,by decide⟩]
  ·rw [lt] at hj
   obtain ⟨b1,o1,e1,e2,e3⟩:=hp (k+j) (by omega)
   have e4:(L.drop k).getD j ao.z=L.getD (k+j) ao.z:=by
    rw [List.getD_eq_getElem?_getD,List.getD_eq_getElem?_getD,List.getElem?_drop]
   rw [e4]
   refine ⟨b1,o1,?_,e2,e3⟩
   rw [←e1]
   unfold df ak
   simp only
   rw [if_pos (by omega),if_pos (by omega),Int.toNat_natCast,Int.toNat_natCast,Nat.add_mul,Nat.add_assoc]
def ba (P:List ao):List Value:=P.flatMap recC
theorem cG : ∀ {P:List ao},(∀ p∈P,ao.Wf p)→(ba P).length=P.length*39
 | [],_=>rfl
 |p::P,h=>by
  have ih:=cG (P:=P) fun q hq=>h q (List.mem_cons_of_mem _ hq)
  have hp:=(bg (h p List.mem_cons_self)).1
  unfold ba at ih ⊢
  rw [List.flatMap_cons,List.length_append,ih,hp,List.length_cons]
  omega
theorem recsC_get : ∀ {P:List ao},(∀ p∈P,ao.Wf p) → ∀ {j:Nat},j<P.length→((ba P).drop (j*39)).take 39=recC (P.getD j ao.z)
 | [],_,j,hj=>absurd hj (Nat.not_lt_zero j)
 |p::P,h,j,hj=>by
  have hp:=(bg (h p List.mem_cons_self)).1
  cases j with
  |zero=>
   unfold ba
   rw [List.flatMap_cons,Nat.zero_mul,List.drop_zero,←hp,List.take_left]
   rfl
  |succ j=>
   have ih:=recsC_get (P:=P) (fun q hq=>h q (List.mem_cons_of_mem _ hq)) (j:=j) (by rw [List.length_cons] at hj;omega)
   unfold ba at ih ⊢
   rw [List.flatMap_cons,show (j+1)*39=39+j*39 by omega,←List.drop_drop,List.drop_left' hp,List.getD_cons_succ,ih]
theorem hI : ∀ {P:List ao},(∀ p∈P,ao.Wf p)→Abs.bJ (ba P)=true∧aJ (ba P)=true
 | [],_=>⟨rfl,rfl⟩
 |p::P,h=>by
  have ih:=hI (P:=P) fun q hq=>h q (List.mem_cons_of_mem _ hq)
  have hp:=bg (h p List.mem_cons_self)
  unfold ba at ih ⊢
  unfold Abs.bJ aJ at *
  rw [List.flatMap_cons,List.all_append,List.all_append,ih.1,ih.2,hp.2.1,hp.2.2]
  exact ⟨rfl,rfl⟩
def RcS (h:ab) (v:Value) (P:List ao):Prop:=(∀ p∈P,ao.Wf p)∧SlN h recK v P.length (ba P)
theorem RcS.rsl {h:ab} {v:Value} {P:List ao} (x:RcS h v P):RSl h v P:=by
 obtain ⟨hd,a,c,rfl,_,_,h0⟩:=x
 refine ⟨⟨_,_,rfl⟩,hd,fun j hj => ?_⟩
 obtain ⟨b,off,s,k,rfl,hk,hlen,hcs⟩:=h0 (by omega)
 rw [show recK.length=39 from rfl] at hlen hcs
 have hm:=mul_le (z:=39) hj
 have e:(k.drop (off+j*39)).take 39=recC (P.getD j ao.z):=by
  rw [←recsC_get hd hj,←hcs]
  rw [List.drop_take,List.take_take,List.drop_drop,Nat.min_eq_left (by omega)]
 refine ⟨b,off+j*39,?_,h.aP hk,fun g hg => ?_⟩
 ·unfold df ak
  simp only
  rw [if_pos (by omega),Int.toNat_natCast]
 ·have dp:ao.Wf (P.getD j ao.z):=hd _ (by
   rw [List.getD_eq_getElem?_getD,List.getElem?_eq_getElem hj]
   exact List.getElem_mem hj)
  have:=ldN_at (o:=off+j*39) (n:=39) (hg.trans hk) (by omega) (by rw [e];exact (bg dp).2.1)
  rw [e] at this
  exact this
theorem RcS.mono {h h':ab} {v:Value} {P:List ao} (x:RcS h v P) (o:Old h h'):RcS h' v P:=by
 obtain ⟨hd,a,c,rfl,hn,ht,h0⟩:=x
 refine ⟨hd,a,c,rfl,hn,ht,fun hp => ?_⟩
 obtain ⟨b,off,s,k,rfl,hk,hlen,hcs⟩:=h0 hp
 exact ⟨b,off,s,k,rfl,Old.get o hk,hlen,hcs⟩
theorem app_recs {g:ab} {v:Value} {P:List ao} (x:RcS g v P) (hl:P.length≤1000000) :
  ∃ v' g',aD 39 88 (.slice (some ⟨g.next,0,none⟩) 0 0) v (g.alloc [])=some (v',g')∧Old g g'∧RSl g' v' P∧gR v':=by
 have o1:Old g (g.alloc []):=Kept.alloc _ _ _
 obtain ⟨hd,a,c,rfl,hn,ht,h0⟩:=x
 by_cases hz:P.length=0
 ·have hP:P = []:=List.length_eq_zero_iff.1 hz
  subst hP
  refine ⟨.slice (some ⟨g.next,0,none⟩) 0 0,g.alloc [],?_,o1,⟨⟨_,_,rfl⟩,hd,fun j hj=>absurd hj (Nat.not_lt_zero j)⟩,⟨_,_,_,rfl,Nat.le_refl _,fun h=>absurd h (Nat.lt_irrefl 0)⟩⟩
  cases a with
  |none=>rfl
  |some a=>obtain ⟨b,off,s⟩:=a;rfl
 ·obtain ⟨b,off,s,k,rfl,hk,hlen,hcs⟩:=h0 (by omega)
  rw [show recK.length=39 from rfl] at hlen hcs
  have hl':=cG hd
  have hk1:(g.alloc []).get b=some k:=Old.get o1 hk
  have hf:bc 39 P.length (.slice (some ⟨b,off,s⟩) P.length c) (g.alloc [])=some (ba P):=by
   unfold bc
   simp only
   rw [if_neg (by omega),hk1]
   simp only
   rw [hcs,if_pos ⟨hlen,(hI hd).1⟩]
  have o2:Old (g.alloc []) ((g.alloc []).alloc (ba P)):=Kept.alloc _ _ _
  have D2:RcS ((g.alloc []).alloc (ba P)) (.slice (some ⟨(g.alloc []).next,0,some 39⟩) P.length P.length) P:=by
   refine ⟨hd,_,_,rfl,fun h=>(by cases h),ht,fun _=>⟨_,_,_,ba P,rfl,by rw [ab.aK,if_pos rfl],?_,?_⟩⟩
   ·rw [show recK.length=39 from rfl,hl',Nat.zero_add]
    exact Nat.le_refl _
   ·rw [show recK.length=39 from rfl,List.drop_zero,←hl',List.take_length]
  refine ⟨.slice (some ⟨(g.alloc []).next,0,some 39⟩) P.length P.length,(g.alloc []).alloc (ba P),?_,o1.trans o2,D2.rsl,⟨_,_,_,rfl,Nat.le_refl _,fun _ b o s e=>by cases e;rfl⟩⟩
  have hf0:bc 39 0 (.slice (some ⟨g.next,0,none⟩) 0 0) (g.alloc [])=some []:=rfl
  unfold aD
  simp only [lenA,hf,hf0]
  rw [if_neg (by
   simp only [(hI hd).2,hl',Bool.not_true,Bool.false_or,Bool.or_eq_true,Bool.not_eq_true',decide_eq_false_iff_not,decide_eq_true_eq,Nat.zero_add]
   omega),if_neg (by omega)]
  simp only [List.nil_append,Nat.zero_add,List.length_nil,Nat.zero_mul]
  rw [if_neg (by simp)]
theorem is26:cd Tryd.prog 26 Tryd.f26:=⟨by kernel_rfl,by kernel_rfl,by kernel_rfl,by kernel_rfl⟩
theorem is60:cd Tryd.prog 60 Tryd.f60:=⟨by kernel_rfl,by kernel_rfl,by kernel_rfl,by kernel_rfl⟩
theorem is113:cd Tryd.prog 113 Tryd.f113:=⟨by kernel_rfl,by kernel_rfl,by kernel_rfl,by kernel_rfl⟩
theorem results113:Tryd.f113.results.toList = [.tmp 4]:=by kernel_rfl
set_option maxRecDepth 100000 in
theorem r113 {h:ab} (hG:4≤h.n0) {v fv:Value} {L:List ao} (hv:RSl h v L) (hl:L.length≤1000000) (p:ao→Bool) (hp : ∀ r∈L,r.Wf → ∀ g,Old h g → ∃ g',callA Tryd.prog CW fv [.agg (recC r).toArray] g=some (.bool (p r),g')∧Old g g') :
  ∃ (k:Int) (h':ab),CW 113 [v,fv] h=some (.int .i64 k,h')∧Old h h'∧decide (k≥0)=L.any p:=by
 have hll:=hv.len
 have key : ∃ o:Out,t113 CW v fv h=o ∧ ∃ (k:Int) (h':ab),o=some (.int .i64 k,h')∧Old h h'∧decide (k≥0)=L.any p:=by
  refine ⟨_,rfl,?_⟩
  unfold t113
  simp -implicitDefEqProofs only [hll,ad,af]
  refine bO (n:=19) (fin:=fun ex y g=>Old h g∧((ex = .exit 0∧L.any p=false)∨(ex = .ret∧L.any p=true ∧ ∃ i:Nat,y 4=ak i))) (Q:=fun o:Out => ∃ (k:Int) (h':ab),o=some (.int .i64 k,h')∧Old h h'∧decide (k≥0)=L.any p)
   (bP (t113l113_1010_eq CW) (Inv:=fun k y g => ∃ i,i+k=L.length∧y 0=v∧y 1=fv∧y 7=ak L.length∧y 8=ak i∧Old h g∧L.any p=(L.drop i).any p) ?_ L.length (by have:rounds=18446744073709551616:=rfl;omega) ⟨0,by omega,rfl,rfl,rfl,rfl,Kept.refl _ _,by rw [List.drop_zero]⟩) ?_
  ·rintro k y g ⟨i,hik,y0,y1,y7,y8,O,ha⟩
   unfold t113l113_1010
   simp -implicitDefEqProofs only [y7,y8,lss3,ad,af]
   by_cases hi:i<L.length
   ·obtain ⟨b,o,ix,wr,mr,lp⟩:=hv.at hi
    have hd:L.drop i=L.getD i ao.z::L.drop (i+1):=by
     rw [List.drop_eq_getElem_cons hi,List.getD_eq_getElem?_getD,List.getElem?_eq_getElem hi]
     rfl
    rw [hd,List.any_cons] at ha
    generalize L.getD i ao.z=r at *
    have L1:=lp g O
    obtain ⟨g',e',o'⟩:=hp r mr wr g O
    cases hpr:p r with
    |true=>
     rw [hpr] at e'
     rw [hpr,Bool.true_or] at ha
     simp -implicitDefEqProofs only [decide_eq_true hi,y0,y1,ix,L1,e',ad,af]
     exact dU.ret ⟨O.trans o',.inr ⟨rfl,ha,i,rfl⟩⟩
    |false=>
     rw [hpr] at e'
     rw [hpr,Bool.false_or] at ha
     have a8:bin Tryd.prog .add 3 (ak i) (.int .i64 1)=some (ak (i+1)):=fc (by omega)
     simp -implicitDefEqProofs only [decide_eq_true hi, y0, y1, ix, L1, e', a8, ad, af]
     exact dU.next (k-1) (by omega) ⟨i+1,by omega,y0,y1,y7,rfl,O.trans o',ha⟩
   ·have hiE:i=L.length:=by omega
    rw [hiE,List.drop_length] at ha
    simp -implicitDefEqProofs only [decide_eq_false hi]
    exact dU.out 0 ⟨O,.inl ⟨rfl,ha⟩⟩
  ·rintro ex z g ⟨O,⟨rfl,ha⟩|⟨rfl,ha,i,z4⟩⟩
   ·simp -implicitDefEqProofs only [bB,b113_3,if_true,t113k113_1_eq]
    unfold t113k113_1
    exact ⟨-1,g,rfl,O,by rw [ha];rfl⟩
   ·rw [endL_ret,res_one results113 (by decide),z4]
    refine ⟨i,g,rfl,O,?_⟩
    rw [ha,decide_eq_true (by omega)]
 obtain ⟨o9,e,k,h',e',q⟩:=key
 exact ⟨k,h',aC is113 hG rfl ((t113_eq _ _ _ _).trans (e.trans e')),q⟩
theorem r60 {h:ab} (hG:4≤h.n0) {v fv:Value} {L:List ao} (hv:RSl h v L) (hl:L.length≤1000000) (p:ao→Bool) (hp : ∀ r∈L,r.Wf → ∀ g,Old h g → ∃ g',callA Tryd.prog CW fv [.agg (recC r).toArray] g=some (.bool (p r),g')∧Old g g') :
  ∃ h',CW 60 [v,fv] h=some (.bool (L.any p),h')∧Old h h':=by
 obtain ⟨k,h',e,o,q⟩:=r113 hG hv hl p hp
 have ge:bin Tryd.prog .geq 3 (.int .i64 k) (.int .i64 0)=some (.bool (L.any p)):=by rw [bC,q]
 refine ⟨h',aC is60 hG rfl ((t60_eq _ _ _ _).trans ?_),o⟩
 unfold t60
 simp -implicitDefEqProofs only [e,ge,ad,af]
theorem fs_124:Nat.ble 125 Tryd.prog.funcs.size=true:=by kernel_rfl
def gI (L:List ao):Bool:=L.any fun r => !(dK r)
theorem invB_false {L:List ao} (h:gI L=false) : ∀ r∈L,dK r=true:=by
 intro r hr
 unfold gI at h
 rw [List.any_eq_false] at h
 have:=h r hr
 simpa using this
section
open Go.ChangeShapes Go.WideShapes Go.ChangeAt Go.RowKit
variable {H:Type} {enc:TypeId×Value→H} {W:World} {base:Nat} {held:Bool}
theorem gs_of {t e:TypeId} {z:Nat} (ht:Tryd.prog.underlying t=some (.slice e)) (he:Tryd.prog.cellsOf e=z) (hz:0<z) {fuel:Nat} {v:Value} {x:DataW H×List MemPlace} (h:DataW.trod enc Tryd.prog W base (fun _=>true) held fuel t [v]=some x) :
  ∃ a n c,clean W.heap.size v = .slice a n c∧n≤c∧(0<n → ∀ b o s,a=some ⟨b,o,some s⟩→False):=by
 rcases DataW.trod_slice ht h with ⟨h1,_⟩|⟨a,len,cap,elems,rest,n,_,h1,_,_,hlc,hcm,hl,hel,hsp,_⟩
 ·cases h1
  exact ⟨none,0,0,rfl,Nat.le_refl _,fun h=>absurd h (Nat.lt_irrefl 0)⟩
 ·cases h1
  rw [he] at hel hsp
  have hpos:0<cap→a.spot=none∧a.block<W.heap.size:=by
   intro h0
   have key : ∃ cs,W.cells? base (a.add (0*z)) z=some cs:=by
    by_cases hlen:0<len
    ·have:=hel 0 hlen
     rw [List.getElem?_eq_getElem (by omega),Option.bind_eq_some_iff] at this
     obtain ⟨cs,hc,_⟩:=this
     exact ⟨cs,hc⟩
    ·have:=(hsp rfl).2 0 (by omega)
     rw [List.getElem?_eq_getElem (by rw [(hsp rfl).1];omega),Option.bind_eq_some_iff] at this
     obtain ⟨cs,hc,_⟩:=this
     obtain rfl:len=0:=by omega
     exact ⟨cs,hc⟩
   obtain ⟨cs,hc⟩:=key
   obtain ⟨_,hlen,hcell⟩:=World.cells?_some hc
   have g:=hcell 0 hz
   obtain ⟨c0,hc0⟩ : ∃ c0,cs[0]? = some c0:=⟨cs[0],List.getElem?_eq_getElem (by omega)⟩
   rw [hc0,Nat.zero_mul] at g
   have g:W.cell? a=some c0:=g
   obtain ⟨e1,e2,_⟩:=view_cell g
   exact ⟨e1,e2⟩
  obtain ⟨g1,a',g2,g3⟩:=clean_slice (W:=W) hlc hpos
  refine ⟨_,_,_,g2,hlc,fun h0 b o s e => ?_⟩
  have:=g3 (by omega)
  subst this
  have hs:=(hpos (by omega)).1
  rw [Option.some.inj e] at hs
  cases hs
theorem sl22 {fuel:Nat} {v:Value} {x:DataW H×List MemPlace} (h:DataW.trod enc Tryd.prog W base (fun _=>true) held fuel 22 [v]=some x) :
  isHole (clean W.heap.size v)=false∧Value.oneCell' (clean W.heap.size v)=true∧gR (clean W.heap.size v) ∧ ∃ L,RcS (cU W (view W)) (clean W.heap.size v) L:=by
 obtain ⟨h1,n,cs,S⟩:=sl_of Tryd.underlying22 (ks:=recK) (by kernel_rfl) (by decide) rd58 h
 obtain ⟨a,m,c,e,h2,h3⟩:=gs_of Tryd.underlying22 (z:=39) (by kernel_rfl) (by decide) h
 obtain ⟨P,hP,hcs,hd⟩:=list_of (f:=recC) (P:=ao.Wf) (fun xs hx=>rec_of hx) n cs S.typed
 subst hP
 subst hcs
 refine ⟨h1,by rw [e];rfl,⟨a,m,c,e,h2,fun h0 b o s q=>(h3 h0 b o s q).elim⟩,P,hd,S⟩
end
end Go.Proofs.YtdnahgfgoajmcaaDoor

namespace Go.Proofs.YtdnahgfgoajmcaaDoor
open Go Go.Abs
def wv (x:BitVec 32):Value := .int .u32 (x.toNat:Int)
section
variable {P:Program} {t:TypeId}
theorem w_add (x y:BitVec 32):bin P .add t (wv x) (wv y)=some (wv (x+y)):=by
 unfold wv
 rw [bin_add,wrap_u32_mod,BitVec.toNat_add]
 congr 3
theorem w_xor (x y:BitVec 32):bin P .xor t (wv x) (wv y)=some (wv (x ^^^ y)):=by
 unfold wv
 rw [bin_xor_nat P t rfl x.isLt y.isLt,BitVec.toNat_xor]
theorem w_and (x y:BitVec 32):bin P .and t (wv x) (wv y)=some (wv (x &&& y)):=by
 unfold wv
 rw [bin_and_nat P t rfl x.isLt y.isLt,BitVec.toNat_and]
theorem w_or (x y:BitVec 32):bin P .or t (wv x) (wv y)=some (wv (x ||| y)):=by
 unfold wv
 rw [bin_or_nat P t rfl x.isLt y.isLt,BitVec.toNat_or]
theorem w_shr (x:BitVec 32) {k:Nat} (hk:k≤32):bin P .shr t (wv x) (.int .u64 (k:Int))=some (wv (x >>> k)):=by
 unfold wv
 rw [dR P t (by show k≤32;exact hk),BitVec.toNat_ushiftRight,Nat.shiftRight_eq_div_pow]
theorem w_shl (x:BitVec 32) {k:Nat} (hk:k≤32):bin P .shl t (wv x) (.int .u64 (k:Int))=some (wv (x <<< k)):=by
 unfold wv
 rw [dO]
 unfold binI
 simp only
 have hm:min ((k:Int)).toNat (IntKind.bits .u32)=k:=by
  rw [Int.toNat_natCast]
  exact Nat.min_eq_left hk
 rw [if_neg (by omega),hm,wrap_u32_mod,BitVec.toNat_shiftLeft,Nat.shiftLeft_eq]
 congr 2
theorem w_not (x:BitVec 32):unA .xor (wv x)=some (wv (~~~x)):=by
 unfold wv unA bitsA
 simp only
 have e1:BitVec.ofInt (IntKind.bits .u32) (if IntKind.signed .u32=true then -1 else IntKind.max .u32)=BitVec.allOnes 32:=by show BitVec.ofInt 32 4294967295=_;rfl
 have e2:BitVec.ofInt (IntKind.bits .u32) ((x.toNat:Nat):Int)=x:=by
  show BitVec.ofInt 32 _=x
  rw [BitVec.ofInt_natCast,BitVec.ofNat_toNat,BitVec.setWidth_eq]
 rw [e1,e2]
 have e3:(BitVec.allOnes 32 ^^^ x) = ~~~x:=by
  rw [BitVec.allOnes_xor]
 show some (Value.int .u32 (IntKind.wrap .u32 (((BitVec.allOnes 32 ^^^ x).toNat:Nat):Int)))=_
 rw [e3,wrap_u32 (by omega) (by have:=(~~~x).isLt;omega)]
theorem w_byte (n:Nat) (hn:n<256) (h:ab):cvI .u32 (u8 n) h=some (wv (BitVec.ofNat 32 n),h):=by
 unfold wv
 rw [c7,wrap_u32 (by omega) (by omega),BitVec.toNat_ofNat,Nat.mod_eq_of_lt (by omega)]
end
def dC (x:BitVec 32) (n:Nat):BitVec 32:=(x <<< (32-n)) ||| (x >>> n)
end Go.Proofs.YtdnahgfgoajmcaaDoor

namespace Go.Proofs.YtdnahgfgoajmcaaDoor
open Go Go.Abs
attribute [local congr] aq
theorem is159:cd Tryd.prog 159 Tryd.f159:=⟨by kernel_rfl,by kernel_rfl,by kernel_rfl,by kernel_rfl⟩
theorem r159 {h:ab} (hG:4≤h.n0) (x:BitVec 32) {k:Nat} (hk:k≤32) {z:Int} (e:bin Tryd.prog .and 111 (.int .u64 (IntKind.wrap .u64 z)) (.int .u64 31)=some (.int .u64 ((32-k:Nat):Int))):CW 159 [wv x,.int .i64 z] h=some (wv (dC x k),h):=by
 refine aC is159 hG rfl ((t159_eq _ _ _ _).trans ?_)
 unfold t159
 have e2:bin Tryd.prog .sub 111 (.int .u64 32) (.int .u64 ((32-k:Nat):Int))=some (.int .u64 ((k:Nat):Int)):=by
  rw [eK,show (32:Int)-((32-k:Nat):Int)=(k:Int) by omega,wrap_u64 (by omega) (by omega)]
 simp -implicitDefEqProofs only [c7,e,e2,w_shl x (show 32-k≤32 by omega),w_shr x hk,w_or,ad,af]
 rfl
def w4 (a b c d:Nat):BitVec 32:=(BitVec.ofNat 32 a <<< 24) ||| (BitVec.ofNat 32 b <<< 16) ||| (BitVec.ofNat 32 c <<< 8) ||| BitVec.ofNat 32 d
def wAt (B:List Nat) (i:Nat):BitVec 32:=w4 (B.getD (4*i) 0) (B.getD (4*i+1) 0) (B.getD (4*i+2) 0) (B.getD (4*i+3) 0)
def sch0 (B:List Nat):List (BitVec 32):=(List.range 16).map (wAt B)
def s0w (x:BitVec 32):BitVec 32:=dC x 7 ^^^ dC x 18 ^^^ (x >>> 3)
def s1w (y:BitVec 32):BitVec 32:=dC y 17 ^^^ dC y 19 ^^^ (y >>> 10)
def nextW (l:List (BitVec 32)):BitVec 32:=l.getD (l.length-16) 0+s0w (l.getD (l.length-15) 0)+l.getD (l.length-7) 0+s1w (l.getD (l.length-2) 0)
def extW:Nat→List (BitVec 32)→List (BitVec 32)
 | 0,l=>l
 |n+1,l=>extW n (l ++ [nextW l])
abbrev eC (l:List (BitVec 32)):List Value:=l.map wv
def wTab (l:List (BitVec 32)):List Value:=eC l++List.replicate (64-l.length) (.int .u32 0)
theorem wTab_len {l:List (BitVec 32)} (h:l.length≤64):(wTab l).length=64:=by unfold wTab;simp;omega
theorem wTab_set {l:List (BitVec 32)} {i:Nat} (hl:l.length=i) (hi:i<64) (x:BitVec 32):(wTab l).set i (wv x)=wTab (l ++ [x]):=by
 subst hl
 unfold wTab
 have e:64-l.length=(64-(l.length+1))+1:=by omega
 rw [e,List.replicate_succ]
 rw [set_app (A:=eC l) (B':=wv x::List.replicate (64-(l.length+1)) (.int .u32 0)) 0 (by simp) rfl]
 simp
theorem wTab_at {l:List (BitVec 32)} {i:Nat} (hi:i<l.length):(wTab l)[i]? = some (wv (l.getD i 0)):=by
 unfold wTab
 rw [List.getElem?_append_left (by simpa using hi),List.getElem?_map,List.getD_eq_getElem?_getD,List.getElem?_eq_getElem hi]
 rfl
def dv (S:List (BitVec 32)) (B:List Nat) (n:Nat):List Value:=eC S++(aV B ++ [ak n])
theorem hash_byte {S:List (BitVec 32)} {B:List Nat} {n:Nat} (hS:S.length=8) {j:Nat} (hj:j<B.length):(dv S B n)[8+j]? = some (u8 (B.getD j 0)):=by
 unfold dv
 rw [List.getElem?_append_right (by simp [hS]),List.length_map,hS,Nat.add_sub_cancel_left,List.getElem?_append_left (by simpa using hj),List.getElem?_map,List.getD_eq_getElem?_getD,List.getElem?_eq_getElem hj]
 rfl
theorem idxN {N b o i:Nat} (hi:i<N):bI N 1 (ptr b o) (ak i)=some (ptr b (o+i)):=by
 unfold bI
 simp only []
 rw [if_pos (by omega),Int.toNat_natCast,Nat.mul_one,aB]
theorem mul4 {i:Nat} (hi:i<1000):bin Tryd.prog .mul 3 (.int .i64 4) (ak i)=some (ak (4*i)):=by
 unfold ak
 rw [gU,show (4:Int)*(i:Int)=((4*i:Nat):Int) by omega,wrap_i64 (by omega) (by omega)]
theorem addc {i c:Nat} (hi:i+c<100000):bin Tryd.prog .add 3 (ak i) (.int .i64 (c:Int))=some (ak (i+c)):=by
 unfold ak
 rw [bin_add,show (i:Int)+(c:Int)=((i+c:Nat):Int) by omega,wrap_i64 (by omega) (by omega)]
theorem subc {i c:Nat} (hi:i<100000) (hc:c≤i):bin Tryd.prog .sub 3 (ak i) (.int .i64 (c:Int))=some (ak (i-c)):=by
 unfold ak
 rw [eK,show (i:Int)-(c:Int)=((i-c:Nat):Int) by omega,wrap_i64 (by omega) (by omega)]
theorem bys_getD {B:List Nat} (hB:Bys B) {j:Nat} (hj:j<B.length):B.getD j 0<256:=by
 rw [List.getD_eq_getElem?_getD,List.getElem?_eq_getElem hj]
 exact hB _ (List.getElem_mem hj)
theorem cmp1 {h:ab} {p b:Nat} {S:List (BitVec 32)} {B:List Nat} {n:Nat} (hS:S.length=8) (hBl:B.length=64) (hB:Bys B) (hp:h.get p=some (dv S B n)) (hb:h.n0≤b) (hpb:p≠b) (hw:h.get b=some (wTab []))
  {x:Nat→Value} (x0:x 0=ptr p 0) (x2:x 2=ptr b 0) (x24:x 24=ak 0) :
  Fin 241 (fun ex y g=>ex = .exit 0∧y 0=ptr p 0∧y 2=ptr b 0∧Kept h g (· = b)∧g.get b=some (wTab (sch0 B))∧g.next=h.next) (iter (av Tryd.prog CW (partOf Tryd.f149 [1,0,1,0,0])) rounds (aO 241 x) h):=by
 refine bP (t149l149_1010_eq CW) (Inv:=fun k y g => ∃ i,i+k=16∧y 0=ptr p 0∧y 2=ptr b 0∧y 24=ak i∧Kept h g (· = b)∧g.get b=some (wTab ((List.range i).map (wAt B)))∧g.next=h.next) ?_ 16 (by have:rounds=18446744073709551616:=rfl;omega) ⟨0,Nat.zero_add _,x0,x2,x24,Kept.refl _ _,hw,rfl⟩
 rintro k y g ⟨i,hik,y0,y2,y24,K,gw,gn⟩
 unfold t149l149_1010
 have l16:bin Tryd.prog .lss 3 (ak i) (.int .i64 16)=some (.bool (decide (i<16))):=lss3 i 16
 simp -implicitDefEqProofs only [y24,l16,ad,af]
 by_cases hi:i<16
 ·have gp:g.get p=some (dv S B n):=Kept.dX K hp hpb
  have lb : ∀ j,j<64→ld1 (ptr p (8+j)) g=some (u8 (B.getD j 0),g):=fun j hj=>aQ gp (hash_byte hS (by omega)) rfl
  have c0:=w_byte _ (bys_getD hB (j:=4*i) (by omega)) g
  have c1:=w_byte _ (bys_getD hB (j:=4*i+1) (by omega)) g
  have c2:=w_byte _ (bys_getD hB (j:=4*i+2) (by omega)) g
  have c3:=w_byte _ (bys_getD hB (j:=4*i+3) (by omega)) g
  have a1:bin Tryd.prog .add 3 (ak (4*i)) (.int .i64 1)=some (ak (4*i+1)):=addc (c:=1) (by omega)
  have a2:bin Tryd.prog .add 3 (ak (4*i)) (.int .i64 2)=some (ak (4*i+2)):=addc (c:=2) (by omega)
  have a3:bin Tryd.prog .add 3 (ak (4*i)) (.int .i64 3)=some (ak (4*i+3)):=addc (c:=3) (by omega)
  have sh24 : ∀ x:BitVec 32,bin Tryd.prog .shl 174 (wv x) (.int .u64 24)=some (wv (x <<< 24)):=fun x=>w_shl x (k:=24) (by decide)
  have sh16 : ∀ x:BitVec 32,bin Tryd.prog .shl 174 (wv x) (.int .u64 16)=some (wv (x <<< 16)):=fun x=>w_shl x (k:=16) (by decide)
  have sh8 : ∀ x:BitVec 32,bin Tryd.prog .shl 174 (wv x) (.int .u64 8)=some (wv (x <<< 8)):=fun x=>w_shl x (k:=8) (by decide)
  have ll:((List.range i).map (wAt B)).length=i:=by simp
  obtain ⟨g2,e2,k2,s2,_,m2⟩:=stored (o:=i) (v:=wv (wAt B i)) gw (by rw [K.n0];exact hb) (by rw [wTab_len (by omega)];omega) rfl rfl
  have hw4:wv (BitVec.ofNat 32 (B.getD (4*i) 0) <<< 24 ||| BitVec.ofNat 32 (B.getD (4*i+1) 0) <<< 16 ||| BitVec.ofNat 32 (B.getD (4*i+2) 0) <<< 8 ||| BitVec.ofNat 32 (B.getD (4*i+3) 0))=wv (wAt B i):=rfl
  have ix:bI 64 1 (ptr b 0) (ak i)=some (ptr b i):=by rw [idxN (by omega),Nat.zero_add]
  simp -implicitDefEqProofs only [decide_eq_true hi, y0, y2, mul4 (show i<1000 by omega), bQ, aB, Nat.zero_add, idxN (show 4*i<64 by omega), idxN (show 4*i+1<64 by omega), idxN (show 4*i+2<64 by omega), idxN (show 4*i+3<64 by omega), lb (4*i) (by omega), lb (4*i+1) (by omega), lb (4*i+2) (by omega), lb (4*i+3) (by omega), c0, c1, c2, c3, a1, a2, a3, sh24, sh16, sh8, w_or, hw4, ix, e2, fc (show i+1≤9223372036854775807 by omega), ad, af]
  refine dU.next (k-1) (by omega) ⟨i+1,by omega,y0,y2,rfl,K.trans k2,?_,m2.trans gn⟩
  rw [s2,wTab_set ll (by omega),List.range_succ,List.map_append]
  rfl
 ·have:i=16:=by omega
  subst this
  simp -implicitDefEqProofs only [decide_eq_false hi]
  exact dU.out 0 ⟨rfl,y0,y2,K,gw,gn⟩
end Go.Proofs.YtdnahgfgoajmcaaDoor

namespace Go.Proofs.YtdnahgfgoajmcaaDoor
open Go Go.Abs
attribute [local congr] aq
theorem and25:bin Tryd.prog .and 111 (.int .u64 (IntKind.wrap .u64 (-7))) (.int .u64 31)=some (.int .u64 ((32-7:Nat):Int)):=by kernel_rfl
theorem rots {h:ab} (hG:4≤h.n0) (x:BitVec 32):CW 159 [wv x,.int .i64 (-7)] h=some (wv (dC x 7),h)∧CW 159 [wv x,.int .i64 (-18)] h=some (wv (dC x 18),h)∧CW 159 [wv x,.int .i64 (-17)] h=some (wv (dC x 17),h)∧CW 159 [wv x,.int .i64 (-19)] h=some (wv (dC x 19),h) ∧
  CW 159 [wv x,.int .i64 (-6)] h=some (wv (dC x 6),h)∧CW 159 [wv x,.int .i64 (-11)] h=some (wv (dC x 11),h)∧CW 159 [wv x,.int .i64 (-25)] h=some (wv (dC x 25),h)∧CW 159 [wv x,.int .i64 (-2)] h=some (wv (dC x 2),h)∧CW 159 [wv x,.int .i64 (-13)] h=some (wv (dC x 13),h)∧CW 159 [wv x,.int .i64 (-22)] h=some (wv (dC x 22),h):=
 ⟨r159 hG x (by decide) and25,r159 hG x (k:=18) (by decide) (by kernel_rfl),r159 hG x (k:=17) (by decide) (by kernel_rfl),r159 hG x (k:=19) (by decide) (by kernel_rfl),r159 hG x (k:=6) (by decide) (by kernel_rfl),r159 hG x (k:=11) (by decide) (by kernel_rfl),r159 hG x (k:=25) (by decide) (by kernel_rfl),r159 hG x (k:=2) (by decide) (by kernel_rfl),r159 hG x (k:=13) (by decide) (by kernel_rfl),r159 hG x (k:=22) (by decide) (by kernel_rfl)⟩
theorem extW_len : ∀ (n:Nat) (l:List (BitVec 32)),(extW n l).length=l.length+n
 | 0,l=>rfl
 |n+1,l=>by rw [extW,extW_len n,List.length_append];simp;omega
theorem extW_snoc : ∀ (n:Nat) (l:List (BitVec 32)),extW n l ++ [nextW (extW n l)]=extW (n+1) l
 | 0,l=>rfl
 |n+1,l=>by rw [extW,extW_snoc n];rfl
theorem cmp2 {h:ab} (hG:4≤h.n0) {p b:Nat} {l:List (BitVec 32)} (hl:l.length=16) (hb:h.n0≤b) (hw:h.get b=some (wTab l))
  {x:Nat→Value} (x0:x 0=ptr p 0) (x2:x 2=ptr b 0) (x4:x 4=ak 16) :
  Fin 241 (fun ex y g=>ex = .exit 2∧y 0=ptr p 0∧y 2=ptr b 0∧Kept h g (· = b)∧g.get b=some (wTab (extW 48 l))∧g.next=h.next) (iter (av Tryd.prog CW (partOf Tryd.f149 [1,1,0,1,0,0])) rounds (aO 241 x) h):=by
 refine bP (t149l149_11010_eq CW) (Inv:=fun k y g => ∃ i,i+k=48∧y 0=ptr p 0∧y 2=ptr b 0∧y 4=ak (16+i)∧Kept h g (· = b)∧g.get b=some (wTab (extW i l))∧g.next=h.next) ?_ 48 (by have:rounds=18446744073709551616:=rfl;omega) ⟨0,Nat.zero_add _,x0,x2,x4,Kept.refl _ _,hw,rfl⟩
 rintro k y g ⟨i,hik,y0,y2,y4,K,gw,gn⟩
 unfold t149l149_11010
 have l64:bin Tryd.prog .lss 3 (ak (16+i)) (.int .i64 64)=some (.bool (decide (16+i<64))):=lss3 (16+i) 64
 simp -implicitDefEqProofs only [y4,l64,ad,af]
 by_cases hi:16+i<64
 ·have len:(extW i l).length=16+i:=by rw [extW_len,hl]
  have hg:4≤g.n0:=by rw [K.n0];exact hG
  have s15:bin Tryd.prog .sub 3 (ak (16+i)) (.int .i64 15)=some (ak (16+i-15)):=subc (c:=15) (by omega) (by omega)
  have s2:bin Tryd.prog .sub 3 (ak (16+i)) (.int .i64 2)=some (ak (16+i-2)):=subc (c:=2) (by omega) (by omega)
  have s16:bin Tryd.prog .sub 3 (ak (16+i)) (.int .i64 16)=some (ak (16+i-16)):=subc (c:=16) (by omega) (by omega)
  have s7:bin Tryd.prog .sub 3 (ak (16+i)) (.int .i64 7)=some (ak (16+i-7)):=subc (c:=7) (by omega) (by omega)
  have ix : ∀ j,j<64→bI 64 1 (ptr b 0) (ak j)=some (ptr b j):=fun j hj=>by rw [idxN hj,Nat.zero_add]
  have lw : ∀ j,j<16+i→ld1 (ptr b j) g=some (wv ((extW i l).getD j 0),g):=fun j hj=>aQ gw (wTab_at (by omega)) rfl
  generalize hX:(extW i l).getD (16+i-15) 0=X at *
  generalize hY:(extW i l).getD (16+i-2) 0=Y at *
  have lX:=lw (16+i-15) (by omega)
  have lY:=lw (16+i-2) (by omega)
  rw [hX] at lX
  rw [hY] at lY
  obtain ⟨rx7,rx18,_⟩:=rots hg X
  obtain ⟨_,_,ry17,ry19,_⟩:=rots hg Y
  have sh3 : ∀ x:BitVec 32,bin Tryd.prog .shr 174 (wv x) (.int .u64 3)=some (wv (x >>> 3)):=fun x=>w_shr x (k:=3) (by decide)
  have sh10 : ∀ x:BitVec 32,bin Tryd.prog .shr 174 (wv x) (.int .u64 10)=some (wv (x >>> 10)):=fun x=>w_shr x (k:=10) (by decide)
  have hN:wv ((extW i l).getD (16+i-16) 0+(dC X 7 ^^^ dC X 18 ^^^ X >>> 3)+(extW i l).getD (16+i-7) 0+(dC Y 17 ^^^ dC Y 19 ^^^ Y >>> 10))=wv (nextW (extW i l)):=by
   unfold nextW s0w s1w
   rw [len,hX,hY]
  obtain ⟨g2,e2,k2,t2,_,m2⟩:=stored (o:=16+i) (v:=wv (nextW (extW i l))) gw (by rw [K.n0];exact hb) (by rw [wTab_len (by omega)];omega) rfl rfl
  simp -implicitDefEqProofs only [decide_eq_true hi, y2, s15, s2, s16, s7, ix (16+i-15) (by omega), ix (16+i-2) (by omega), ix (16+i-16) (by omega), ix (16+i-7) (by omega), ix (16+i) (by omega), lX, lY, lw (16+i-16) (by omega), lw (16+i-7) (by omega), rx7, rx18, ry17, ry19, w_xor, sh3, sh10, w_add, hN, e2, fc (show 16+i+1≤9223372036854775807 by omega), ad, af]
  refine dU.next (k-1) (by omega) ⟨i+1,by omega,y0,y2,rfl,K.trans k2,?_,m2.trans gn⟩
  rw [t2,wTab_set len (by omega),extW_snoc]
 ·have:i=48:=by omega
  subst this
  simp -implicitDefEqProofs only [decide_eq_false hi]
  exact dU.out 2 ⟨rfl,y0,y2,K,gw,gn⟩
end Go.Proofs.YtdnahgfgoajmcaaDoor

namespace Go.Proofs.YtdnahgfgoajmcaaDoor
open Go Go.Abs
attribute [local congr] aq
def rkW:List (BitVec 32):=bZ.map fun v=>match v with | .int _ n=>BitVec.ofInt 32 n|_=>0
theorem rkW_eq:eC rkW=bZ:=by kernel_rfl
theorem rkW_len:rkW.length=64:=by unfold rkW;rw [List.length_map];kernel_rfl
structure St where
 a:BitVec 32
 b:BitVec 32
 c:BitVec 32
 d:BitVec 32
 e:BitVec 32
 f:BitVec 32
 g:BitVec 32
 i:BitVec 32
def St.l (s:St):List (BitVec 32) := [s.a,s.b,s.c,s.d,s.e,s.f,s.g,s.i]
def t1S (s:St) (k w:BitVec 32):BitVec 32:=s.i+(dC s.e 6 ^^^ dC s.e 11 ^^^ dC s.e 25)+(s.g ^^^ (s.e &&& (s.f ^^^ s.g)))+k+w
def t2S (s:St):BitVec 32:=(dC s.a 2 ^^^ dC s.a 13 ^^^ dC s.a 22)+((s.a &&& s.b) ||| (s.c &&& (s.a ||| s.b)))
def stepS (s:St) (k w:BitVec 32):St:=⟨t1S s k w+t2S s,s.a,s.b,s.c,s.d+t1S s k w,s.e,s.f,s.g⟩
def runS (W:List (BitVec 32)):Nat→St→St
 | 0,s=>s
 |n+1,s=>stepS (runS W n s) (rkW.getD n 0) (W.getD n 0)
structure StE (s:St) (y:Nat→Value):Prop where
 a:y 9=wv s.a
 b:y 10=wv s.b
 c:y 11=wv s.c
 d:y 12=wv s.d
 e:y 13=wv s.e
 f:y 14=wv s.f
 g:y 15=wv s.g
 i:y 16=wv s.i
set_option maxRecDepth 100000 in
theorem cmp3 {h:ab} (hG:4≤h.n0) (hz:h.get 3=some bZ) {p b:Nat} {W:List (BitVec 32)} (hl:W.length=64) (hw:h.get b=some (wTab W)) {s:St}
  {x:Nat→Value} (x0:x 0=ptr p 0) (x2:x 2=ptr b 0) (x154:x 154=ak 0) (xs:StE s x) :
  Fin 241 (fun ex y g=>ex = .exit 4∧y 0=ptr p 0∧StE (runS W 64 s) y∧g=h) (iter (av Tryd.prog CW (partOf Tryd.f149 [1,1,1,1,1,0,1,0,0])) rounds (aO 241 x) h):=by
 refine bP (t149l149_11111010_eq CW) (Inv:=fun k y g => ∃ i,i+k=64∧y 0=ptr p 0∧y 2=ptr b 0∧y 154=ak i∧StE (runS W i s) y∧g=h) ?_ 64 (by have:rounds=18446744073709551616:=rfl;omega) ⟨0,Nat.zero_add _,x0,x2,x154,xs,rfl⟩
 rintro k y g ⟨i,hik,y0,y2,y154,Y,rfl⟩
 unfold gM
 have l64:bin Tryd.prog .lss 3 (ak i) (.int .i64 64)=some (.bool (decide (i<64))):=lss3 i 64
 simp -implicitDefEqProofs only [y154,l64,ad,af]
 by_cases hi:i<64
 ·have ix:bI 64 1 (ptr b 0) (ak i)=some (ptr b i):=by rw [idxN hi,Nat.zero_add]
  have ix3:bI 64 1 (ptr 3 0) (ak i)=some (ptr 3 i):=by rw [idxN hi,Nat.zero_add]
  have lw:ld1 (ptr b i) g=some (wv (W.getD i 0),g):=aQ hw (wTab_at (by omega)) rfl
  have lk:ld1 (ptr 3 i) g=some (wv (rkW.getD i 0),g):=aQ hz (by
   rw [←rkW_eq,List.getElem?_map,List.getD_eq_getElem?_getD,List.getElem?_eq_getElem (by rw [rkW_len];exact hi)]
   rfl) rfl
  generalize hs:runS W i s=q at *
  obtain ⟨_,_,_,_,re6,re11,re25,_⟩:=rots hG q.e
  obtain ⟨_,_,_,_,_,_,_,ra2,ra13,ra22⟩:=rots hG q.a
  simp -implicitDefEqProofs only [decide_eq_true hi, y2, Y.a, Y.b, Y.c, Y.d, Y.e, Y.f, Y.g, Y.i, ix, ix3, lw, lk, re6, re11, re25, ra2, ra13, ra22, w_xor, w_and, w_or, w_add, fc (show i+1≤9223372036854775807 by omega), ad, af]
  refine dU.next (k-1) (by omega) ⟨i+1,by omega,y0,y2,rfl,?_,rfl⟩
  rw [runS,hs]
  exact ⟨rfl,rfl,rfl,rfl,rfl,rfl,rfl,rfl⟩
 ·have:i=64:=by omega
  subst this
  simp -implicitDefEqProofs only [decide_eq_false hi]
  exact dU.out 4 ⟨rfl,y0,⟨Y.a,Y.b,Y.c,Y.d,Y.e,Y.f,Y.g,Y.i⟩,rfl⟩
def addS (l m:List (BitVec 32)):List (BitVec 32):=List.zipWith (· + ·) l m
def fw (S:List (BitVec 32)) (B:List Nat):List (BitVec 32):=addS S (runS (extW 48 (sch0 B)) 64 ⟨S.getD 0 0,S.getD 1 0,S.getD 2 0,S.getD 3 0,S.getD 4 0,S.getD 5 0,S.getD 6 0,S.getD 7 0⟩).l
theorem compS_len {S:List (BitVec 32)} {B:List Nat} (h:S.length=8):(fw S B).length=8:=by unfold fw addS;rw [List.length_zipWith,h];rfl
end Go.Proofs.YtdnahgfgoajmcaaDoor

namespace Go.Proofs.YtdnahgfgoajmcaaDoor
open Go Go.Abs
attribute [local congr] aq
theorem eight {S:List (BitVec 32)} (h:S.length=8) : ∃ a b c d e f g i,S = [a,b,c,d,e,f,g,i]:=by
 match S,h with
 | [a,b,c,d,e,f,g,i],_=>exact ⟨a,b,c,d,e,f,g,i,rfl⟩
def mixS (S L:List (BitVec 32)) (i:Nat):List (BitVec 32):=(addS S L).take i++S.drop i
theorem mix_step {S L:List (BitVec 32)} (hS:S.length=8) (hL:L.length=8) {i:Nat} (hi:i<8):(mixS S L i).getD i 0=S.getD i 0∧(mixS S L i).set i (S.getD i 0+L.getD i 0)=mixS S L (i+1)∧(mixS S L i).length=8:=by
 obtain ⟨a,b,c,d,e,f,g,j,rfl⟩:=eight hS
 obtain ⟨a',b',c',d',e',f',g',j',rfl⟩:=eight hL
 match i,hi with
 | 0,_=>exact ⟨rfl,rfl,rfl⟩
 | 1,_=>exact ⟨rfl,rfl,rfl⟩
 | 2,_=>exact ⟨rfl,rfl,rfl⟩
 | 3,_=>exact ⟨rfl,rfl,rfl⟩
 | 4,_=>exact ⟨rfl,rfl,rfl⟩
 | 5,_=>exact ⟨rfl,rfl,rfl⟩
 | 6,_=>exact ⟨rfl,rfl,rfl⟩
 | 7,_=>exact ⟨rfl,rfl,rfl⟩
theorem hash_word {S:List (BitVec 32)} {B:List Nat} {n j:Nat} (hj:j<S.length):(dv S B n)[j]? = some (wv (S.getD j 0)):=by
 unfold dv
 rw [List.getElem?_append_left (by simpa using hj),List.getElem?_map,List.getD_eq_getElem?_getD,List.getElem?_eq_getElem hj]
 rfl
theorem hash_set {S:List (BitVec 32)} {B:List Nat} {n j:Nat} (hj:j<S.length) (x:BitVec 32):(dv S B n).set j (wv x)=dv (S.set j x) B n:=by
 unfold dv
 rw [List.set_append_left _ _ (by simpa using hj)]
 show (S.map wv).set j (wv x)++_=(S.set j x).map wv++_
 rw [List.map_set]
theorem hash_len {S:List (BitVec 32)} {B:List Nat} {n:Nat}:(dv S B n).length=S.length+B.length+1:=by
 unfold dv
 simp
 omega
theorem cmp4 {h:ab} {p:Nat} {S L:List (BitVec 32)} {B:List Nat} {n:Nat} (hS:S.length=8) (hL:L.length=8) (hp:h.get p=some (dv S B n)) (hp0:h.n0≤p)
  {x:Nat→Value} (x0:x 0=ptr p 0) (x224:x 224 = .agg (eC L).toArray) (x225:x 225=ak 0) :
  Fin 241 (fun ex _ g=>ex = .exit 6∧Kept h g (· = p)∧g.get p=some (dv (addS S L) B n)∧g.next=h.next) (iter (av Tryd.prog CW (partOf Tryd.f149 [1,1,1,1,1,1,1,0,0])) rounds (aO 241 x) h):=by
 have hm0:mixS S L 0=S:=rfl
 have hm8:mixS S L 8=addS S L:=by
  obtain ⟨a,b,c,d,e,f,g,j,rfl⟩:=eight hS
  obtain ⟨a',b',c',d',e',f',g',j',rfl⟩:=eight hL
  rfl
 refine bP (t149l149_11111110_eq CW) (Inv:=fun k y g => ∃ i,i+k=8∧y 0=ptr p 0∧y 224 = .agg (eC L).toArray∧y 225=ak i∧Kept h g (· = p)∧g.get p=some (dv (mixS S L i) B n)∧g.next=h.next) ?_ 8 (by have:rounds=18446744073709551616:=rfl;omega) ⟨0,Nat.zero_add _,x0,x224,x225,Kept.refl _ _,by rw [hm0];exact hp,rfl⟩
 rintro k y g ⟨i,hik,y0,y224,y225,K,gp,gn⟩
 unfold gO
 have l8:bin Tryd.prog .lss 3 (ak i) (.int .i64 8)=some (.bool (decide (i<8))):=lss3 i 8
 simp -implicitDefEqProofs only [y225,l8,ad,af]
 by_cases hi:i<8
 ·obtain ⟨m1,m2,m3⟩:=mix_step hS hL hi
  have ix:bI 8 1 (ptr p 0) (ak i)=some (ptr p i):=by rw [idxN hi,Nat.zero_add]
  have ia:ixA1 8 1 (.agg (eC L).toArray) (ak i)=some (wv (L.getD i 0)):=by
   unfold ixA1
   simp only []
   rw [if_pos (by omega),Int.toNat_natCast,Nat.mul_one,List.getElem?_toArray,List.getElem?_map,List.getD_eq_getElem?_getD,List.getElem?_eq_getElem (by omega)]
   rfl
  have lp:ld1 (ptr p i) g=some (wv (S.getD i 0),g):=by
   rw [←m1]
   exact aQ gp (hash_word (by omega)) rfl
  obtain ⟨g2,e2,k2,t2,_,n2⟩:=stored (o:=i) (v:=wv (S.getD i 0+L.getD i 0)) gp (by rw [K.n0];exact hp0) (by rw [hash_len,m3];omega) rfl rfl
  simp -implicitDefEqProofs only [decide_eq_true hi, y0, y224, ia, bQ, aB, Nat.zero_add, ix, lp, w_add, e2, fc (show i+1≤9223372036854775807 by omega), ad, af]
  refine dU.next (k-1) (by omega) ⟨i+1,by omega,y0,y224,rfl,K.trans k2,?_,n2.trans gn⟩
  rw [t2,hash_set (by omega),m2]
 ·have:i=8:=by omega
  subst this
  simp -implicitDefEqProofs only [decide_eq_false hi]
  rw [hm8] at gp
  exact dU.out 6 ⟨rfl,K,gp,gn⟩
theorem is149:cd Tryd.prog 149 Tryd.f149:=⟨by kernel_rfl,by kernel_rfl,by kernel_rfl,by kernel_rfl⟩
theorem results149:Tryd.f149.results.toList = []:=by kernel_rfl
theorem bld8v (a b c d e f g i:Int):eW (List.replicate 8 (.int .u32 0)) [(0,1,.int .u32 a),(1,1,.int .u32 b),(2,1,.int .u32 c),(3,1,.int .u32 d),(4,1,.int .u32 e),(5,1,.int .u32 f),(6,1,.int .u32 g),(7,1,.int .u32 i)]=some (.agg ([Value.int .u32 a,.int .u32 b,.int .u32 c,.int .u32 d,.int .u32 e,.int .u32 f,.int .u32 g,.int .u32 i]).toArray):=by kernel_rfl
theorem bld8 (a b c d e f g i:BitVec 32):eW (List.replicate 8 (.int .u32 0)) [(0,1,wv a),(1,1,wv b),(2,1,wv c),(3,1,wv d),(4,1,wv e),(5,1,wv f),(6,1,wv g),(7,1,wv i)]=some (.agg (eC [a,b,c,d,e,f,g,i]).toArray):=bld8v _ _ _ _ _ _ _ _
set_option maxRecDepth 100000 in
theorem r149 {h:ab} (hG:4≤h.n0) (hz:h.get 3=some bZ) {p:Nat} {S:List (BitVec 32)} {B:List Nat} {n:Nat} (hS:S.length=8) (hBl:B.length=64) (hB:Bys B) (hp:h.get p=some (dv S B n)) (hp0:h.n0≤p) :
  ∃ h',CW 149 [ptr p 0] h=some (.tuple #[],h')∧Kept h h' (· = p)∧h'.get p=some (dv (fw S B) B n):=by
 have hlt:=h.aP hp
 obtain ⟨h1,z1,o1,g1,n1⟩:=fresh (List.replicate 64 (.int .u32 0)) h
 have hb1:h1.n0≤h.next:=by rw [o1.n0];exact h.ax
 have hne:p≠h.next:=by omega
 have key : ∃ o:Out,t149 CW (ptr p 0) h=o ∧ ∃ h',o=some (.tuple #[],h')∧Kept h h' (· = p)∧h'.get p=some (dv (fw S B) B n):=by
  refine ⟨_,rfl,?_⟩
  unfold t149
  simp -implicitDefEqProofs only [z1, ad]
  refine bO (Q:=fun o:Out => ∃ h',o=some (.tuple #[],h')∧Kept h h' (· = p)∧h'.get p=some (dv (fw S B) B n)) (cmp1 (p:=p) (b:=h.next) hS hBl hB (Old.get o1 hp) hb1 hne g1 rfl rfl rfl) ?_
  rintro _ y g ⟨rfl,y0,y2,K2,G2,N2⟩
  simp -implicitDefEqProofs only [bB,b149_3,if_true,t149k149_1_eq]
  unfold t149k149_1
  simp -implicitDefEqProofs only [ad]
  have hg2:4≤g.n0:=by rw [K2.n0,o1.n0];exact hG
  refine bO (Q:=fun o:Out => ∃ h',o=some (.tuple #[],h')∧Kept h h' (· = p)∧h'.get p=some (dv (fw S B) B n)) (cmp2 (p:=p) (b:=h.next) hg2 (l:=sch0 B) (by simp [sch0]) (by rw [K2.n0];exact hb1) G2 y0 y2 rfl) ?_
  rintro _ y' g3 ⟨rfl,y0',y2',K3,G3,N3⟩
  simp -implicitDefEqProofs only [bB,b149_6,if_true,t149k149_4_eq]
  unfold t149k149_4
  have O3:Old h g3:=(Old.bA o1 K2 (Nat.le_refl _)).also K3 (fun d hd e=>by omega)
  have hp3:=Old.get O3 hp
  have lp : ∀ j,j<8→ld1 (ptr p j) g3=some (wv (S.getD j 0),g3):=fun j hj=>aQ hp3 (hash_word (by omega)) rfl
  have ix : ∀ j,j<8→bI 8 1 (ptr p 0) (ak j)=some (ptr p j):=fun j hj=>by rw [idxN hj,Nat.zero_add]
  have i0:bI 8 1 (ptr p 0) (.int .i64 0)=some (ptr p 0):=ix 0 (by decide)
  have i1:bI 8 1 (ptr p 0) (.int .i64 1)=some (ptr p 1):=ix 1 (by decide)
  have i2:bI 8 1 (ptr p 0) (.int .i64 2)=some (ptr p 2):=ix 2 (by decide)
  have i3:bI 8 1 (ptr p 0) (.int .i64 3)=some (ptr p 3):=ix 3 (by decide)
  have i4:bI 8 1 (ptr p 0) (.int .i64 4)=some (ptr p 4):=ix 4 (by decide)
  have i5:bI 8 1 (ptr p 0) (.int .i64 5)=some (ptr p 5):=ix 5 (by decide)
  have i6:bI 8 1 (ptr p 0) (.int .i64 6)=some (ptr p 6):=ix 6 (by decide)
  have i7:bI 8 1 (ptr p 0) (.int .i64 7)=some (ptr p 7):=ix 7 (by decide)
  simp -implicitDefEqProofs only [y0',bQ,aB,Nat.zero_add,i0,i1,i2,i3,i4,i5,i6,i7,lp 0 (by decide),lp 1 (by decide),lp 2 (by decide),lp 3 (by decide),lp 4 (by decide),lp 5 (by decide),lp 6 (by decide),lp 7 (by decide),ad,af]
  have hg3:4≤g3.n0:=by rw [O3.n0];exact hG
  refine bO (Q:=fun o:Out => ∃ h',o=some (.tuple #[],h')∧Kept h h' (· = p)∧h'.get p=some (dv (fw S B) B n)) (cmp3 (p:=p) (b:=h.next) hg3 (Old.get O3 hz) (W:=extW 48 (sch0 B)) (by rw [extW_len];simp [sch0]) G3 (s:=⟨S.getD 0 0,S.getD 1 0,S.getD 2 0,S.getD 3 0,S.getD 4 0,S.getD 5 0,S.getD 6 0,S.getD 7 0⟩) y0' y2' rfl ⟨rfl,rfl,rfl,rfl,rfl,rfl,rfl,rfl⟩) ?_
  rintro _ y4 g4 ⟨rfl,y40,Y,rfl⟩
  simp -implicitDefEqProofs only [bB,b149_16,if_true,t149k149_14_eq]
  unfold t149k149_14
  simp -implicitDefEqProofs only [Y.a,Y.b,Y.c,Y.d,Y.e,Y.f,Y.g,Y.i,bld8,ad,af]
  refine bO (Q:=fun o:Out => ∃ h',o=some (.tuple #[],h')∧Kept h h' (· = p)∧h'.get p=some (dv (fw S B) B n)) (cmp4 (p:=p) (S:=S) (L:=(runS (extW 48 (sch0 B)) 64 ⟨S.getD 0 0,S.getD 1 0,S.getD 2 0,S.getD 3 0,S.getD 4 0,S.getD 5 0,S.getD 6 0,S.getD 7 0⟩).l) hS rfl hp3 (by rw [O3.n0];exact hp0) y40 rfl rfl) ?_
  rintro _ y5 g5 ⟨rfl,K5,G5,N5⟩
  simp -implicitDefEqProofs only [bB,b149_25,if_true]
  refine ⟨g5,?_,(O3.mono (fun _ _ h=>h.elim)).trans K5,G5⟩
  rw [results149]
  rfl
 obtain ⟨o,e,h',e',k,g⟩:=key
 exact ⟨h',aC is149 hG rfl ((t149_eq _ _ _).trans (e.trans e')),k,g⟩
end Go.Proofs.YtdnahgfgoajmcaaDoor

namespace Go.Proofs.YtdnahgfgoajmcaaDoor
open Go Go.Abs
attribute [local congr] aq
structure HD where
 S:List (BitVec 32)
 B:List Nat
 n:Nat
structure HD.Ok (s:HD):Prop where
 S:s.S.length=8
 B:s.B.length=64
 by_:Bys s.B
abbrev HD.cells (s:HD):List Value:=dv s.S s.B s.n
def HD.put (s:HD) (l:List Nat):HD:=
 let at_:=s.n%64
 let k:=min l.length (64-at_)
 let B:=s.B.take at_++(l.take k++s.B.drop (at_+k))
 ⟨if at_+k=64 then fw s.S B else s.S,B,s.n+k⟩
def HD.wrN:Nat→HD→List Nat→HD
 | 0,s,_=>s
 |f+1,s,l=>if l = [] then s else HD.wrN f (s.put l) (l.drop (min l.length (64-s.n%64)))
def HD.wr (s:HD) (l:List Nat):HD:=HD.wrN l.length s l
theorem HD.wrN_le : ∀ (f g:Nat) (s:HD) (l:List Nat),l.length≤f→l.length≤g→HD.wrN f s l=HD.wrN g s l
 | 0,0,_,_,_,_=>rfl
 | 0,g+1,s,l,h,_=>by
   have:l = []:=List.length_eq_zero_iff.1 (by omega)
   rw [HD.wrN,HD.wrN,if_pos this]
 |f+1,0,s,l,_,h=>by
  have:l = []:=List.length_eq_zero_iff.1 (by omega)
  rw [HD.wrN,HD.wrN,if_pos this]
 |f+1,g+1,s,l,h1,h2=>by
  rw [HD.wrN,HD.wrN]
  by_cases e:l = []
  ·rw [if_pos e,if_pos e]
  ·rw [if_neg e,if_neg e]
   have hp:0<l.length:=List.length_pos_iff.2 e
   have hm:s.n%64<64:=Nat.mod_lt _ (by decide)
   exact HD.wrN_le f g _ _ (by rw [List.length_drop];omega) (by rw [List.length_drop];omega)
theorem HD.wr_nil (s:HD):s.wr []=s:=rfl
theorem HD.wr_put (s:HD) {l:List Nat} (h:l ≠ []):s.wr l=(s.put l).wr (l.drop (min l.length (64-s.n%64))):=by
 unfold HD.wr
 have hp:0<l.length:=List.length_pos_iff.2 h
 obtain ⟨f,hf⟩ : ∃ f,l.length=f+1:=⟨l.length-1,by omega⟩
 rw [hf,HD.wrN,if_neg h,hf]
 have hm:s.n%64<64:=Nat.mod_lt _ (by decide)
 exact HD.wrN_le _ _ _ _ (by rw [List.length_drop];omega) (Nat.le_refl _)
theorem HD.put_ok {s:HD} (o:s.Ok) {l:List Nat} (hl:Bys l):(s.put l).Ok:=by
 have hm:s.n%64<64:=Nat.mod_lt _ (by decide)
 unfold HD.put
 refine ⟨?_,?_,?_⟩
 ·simp only
  split
  ·exact compS_len o.S
  ·exact o.S
 ·simp only [List.length_append,List.length_take,List.length_drop,o.B]
  omega
 ·intro x hx
  simp only [List.mem_append] at hx
  rcases hx with hx|hx|hx
  ·exact o.by_ x (List.mem_of_mem_take hx)
  ·exact hl x (List.mem_of_mem_take hx)
  ·exact o.by_ x (List.mem_of_mem_drop hx)
theorem arr64 {p i:Nat} (h:i<64):cy 64 1 (ptr p 8) (some (ak i)) none none=some (.slice (some ⟨p,8+i,none⟩) (64-i) (64-i)):=by
 have b1:bE 64 64 (none:Option Value)=some 64:=rfl
 have b2:bE 0 64 (some (ak i))=some i:=by
  unfold bE ak
  simp only
  rw [if_pos (by omega),Int.toNat_natCast]
 unfold cy
 simp only [cm,b1,b2]
 show some (Value.slice (some ⟨p,if 64=i then 8 else 8+i*1,none⟩) (64-i) (64-i))=_
 rw [if_neg (by omega),Nat.mul_one]
theorem copy_min {h:ab} {b off dn dc c n k:Nat} {s:Option Nat} {a:Option Addr} {A B C:List Value} {l:List Nat} (g:h.get b=some (A++(B++C))) (h0:h.n0≤b) (hA:A.length=off) (hB:B.length=k) (hs:au a n h=some l) (hk:k=min n dn) (hk0:0<k) :
  ∃ g',copyA 1 (.slice (some ⟨b,off,s⟩) dn dc) (.slice a n c) h=some (ak k,g')∧Kept h g' (· = b)∧g'.get b=some (A++(aV (l.take k)++C))∧g'.next=h.next:=by
 obtain ⟨hl,hb,_⟩:=aE hs
 have hf:=gD hs (show k≤n by omega) (c:=c)
 have hlk:(l.take k).length=k:=by rw [List.length_take];omega
 have hsp:bK (A++(B++C)) off (aV (l.take k))=A++(aV (l.take k)++C):=splice_app hA hB (by rw [List.length_map];exact hlk)
 refine ⟨h.set b (A++(aV (l.take k)++C)),?_,Kept.set h0 g (.inr rfl),ab.eD h0 g _,rfl⟩
 unfold copyA
 simp only [lenA]
 rw [←hk,hf]
 simp only
 rw [if_neg (by omega)]
 unfold stL
 simp only [g]
 rw [if_pos (by
  have h1:off+(aV (l.take k)).length≤(A++(B++C)).length:=by rw [List.length_append,List.length_append,List.length_map,hA,hB];omega
  simp only [decide_eq_true h0,decide_eq_true h1,(u8s_ok (l.take k)).2,Bool.and_self]),hsp]
 rfl
theorem is122:cd Tryd.prog 122 Tryd.f122:=⟨by kernel_rfl,by kernel_rfl,by kernel_rfl,by kernel_rfl⟩
theorem results122:Tryd.f122.results.toList = []:=by kernel_rfl
theorem eql158 (b o:Nat):bin Tryd.prog .eql 158 (ptr b o) (.pointer none)=some (.bool false):=by kernel_rfl
end Go.Proofs.YtdnahgfgoajmcaaDoor

