/-
  A part of the proof, spaces and names shortened by a program (a claim may hold 1,500,000 bytes).
  Conditions: as each theorem states.
-/
import Derived.Test.YtdnahgfgoajmcaaGreatDoorG14
import Derived.OpenShut
namespace Go.Proofs.YtdnahgfgoajmcaaGreatDoor
open Go Go.Abs Tryz
open Go.ChangeShapes Go.WideShapes Go.ChangeAt Go.RowKit
section
def Pc (ks:List Kd) (o:Nat) (cs:List Value):Prop:=cQ ks ((cs.drop o).take ks.length)
theorem Pc.CZ {ks ls:List Kd} {o:Nat} {cs:List Value} (x:Pc ks o cs) (y:Pc ls (o+ks.length) cs):Pc (ks++ls) o cs:=by unfold Pc at *;rw [DH,List.take_add,E8];exact x.CZ y
theorem Pc.whole {ks:List Kd} {cs:List Value} (x:Pc ks 0 cs) (h:cs.length=ks.length):cQ ks cs:=by unfold Pc at x;rw [EJ,<-h,E9] at x;exact x
theorem rX {n:Nat} {v:Value} (h:nice n v=true):clean n v=v:=by unfold clean;rw [DL h]
theorem Kd.has.clean {k:Kd} {v:Value} (h:k.has v) (n:Nat):clean n v=v:=by
 cases k with
 |u8=>obtain ⟨m,rfl,_⟩:=h;rfl
 |i k=>obtain ⟨m,rfl,_⟩:=h;rfl
 |b=>obtain ⟨t,rfl⟩:=h;rfl
theorem cQ.clean {ks:List Kd} {cs:List Value} (h:cQ ks cs) (n:Nat):cs.map (clean n)=cs:=by
 refine FE fun j => ?_;rw [EF];by_cases hj:j<ks.length
 ·obtain ⟨v,h1,h2⟩:=h.2 j _ (DC hj);rw [h1,Option.map_some,h2.clean]
 ·rw [EK (by rw [h.1];omega)];rfl
theorem u8_lit {n:Int} (h:(Lit.int .u8 n).wf=true) : ∃ m:Nat,n=m/\m<256:=by simp [Lit.wf,IntKind.min,IntKind.max,IntKind.signed,IntKind.bits] at h;exact ⟨n.toNat,by omega,by omega⟩
theorem oO {W:World} {a:Addr} {len cap:Nat} (hlc:len<=cap) (hc:0<cap->a.spot=none/\a.block<W.heap.size) :
  dX (clean W.heap.size (.slice (some a) len cap))=false /\ ∃ a' ,clean W.heap.size (.slice (some a) len cap) = .slice (some a') len cap/\(0<cap->a'=a):=by
 obtain ⟨b,off,s⟩:=a;by_cases h0:0<cap
 ·obtain ⟨h1,h2⟩:=hc h0;have h1':s=none:=h1;have h2':b<W.heap.size:=h2;subst h1';have hn:nice W.heap.size (.slice (some ⟨b,off,none⟩) len cap)=true:=by simpa [nice] using h2'
  rw [rX hn];exact ⟨rfl,_,rfl,fun _=>rfl⟩
 ·obtain rfl:cap=0:=by omega
  obtain rfl:len=0:=by omega
  by_cases hn:nice W.heap.size (.slice (some ⟨b,off,s⟩) 0 0)=true
  ·rw [rX hn];exact ⟨rfl,_,rfl,fun h=>absurd h h0⟩
  ·have:clean W.heap.size (.slice (some ⟨b,off,s⟩) 0 0) = .slice (some ⟨0,0,some 0⟩) 0 0:=by unfold clean;rw [DM hn];rfl
   rw [this];exact ⟨rfl,_,rfl,fun h=>absurd h h0⟩
theorem qg (a:Addr) (n:Nat):(a.add n).block=a.block:=by unfold Addr.add;split<;>rfl
theorem xy (a:Addr) (n:Nat):(a.add n).off=a.off+n:=by
 unfold Addr.add;split
 ·rename_i h;rw [h];rfl
 ·rfl
section
variable {H:Type} {enc:TypeId×Value->H} {W:World} {bN:Nat} {held:Bool}
def pC (enc:TypeId×Value->H) (W:World) (bN:Nat) (held:Bool) (t:TypeId) (ks:List Kd):Prop:=
 ∀ fuel cs x,DataW.trod enc prog W bN (fun _=>true) held fuel t cs=some x->cQ ks cs
theorem tW {t:TypeId} (ht:prog.underlying t=some (.int .u8)):pC enc W bN held t [.u8]:=fun fuel cs x h=>by obtain ⟨n,rfl,_,w⟩:=DataW.trod_int ht h;obtain ⟨m,rfl,hm⟩:=u8_lit w;exact .one ⟨m,rfl,hm⟩
theorem qx {t:TypeId} {k:IntKind} (ht:prog.underlying t=some (.int k)):pC enc W bN held t [.i k]:=fun fuel cs x h=>by obtain ⟨n,rfl,_,w⟩:=DataW.trod_int ht h;exact .one ⟨n,rfl,w⟩
theorem reads_b {t:TypeId} (ht:prog.underlying t=some .bool):pC enc W bN held t [.b]:=fun fuel cs x h=>by obtain ⟨n,rfl,_⟩:=DataW.trod_bool ht h;exact .one ⟨n,rfl⟩
theorem reads_arr {t e:TypeId} {n:Nat} {k:Kd} (ht:prog.underlying t=some (.array n e)) (h1:prog.cellsOf e=1) (hn:prog.cellsOf t=n) (R:pC enc W bN held e [k]):pC enc W bN held t (List.replicate n k):=fun fuel cs x h=>by
 obtain ⟨xs,m,rfl,_,hl,hx,hf⟩:=DataW.trod_array ht h;rw [hn] at hl;refine ⟨by rw [hl,HS],fun j t' hj => ?_⟩;have hj':j<n:=by
  have:=(EP.1 hj).1
  rwa [HS] at this
 rw [GH,DL hj'] at hj;cases hj;have:=hf j hj';rw [DC (by omega),h1,FT] at this;obtain ⟨v,g1,g2⟩:=(R _ _ _ this).2 0 k rfl;rw [FA,DL (by omega),FB,Nat.add_zero] at g1;exact ⟨v,g1,g2⟩
theorem fld {fuel:Nat} {t:TypeId} {cs:List Value} {x:DataW H×List MemPlace} {fs:Array Field} (ht:prog.underlying t=some (.struct fs)) (h:DataW.trod enc prog W bN (fun _=>true) held fuel t cs=some x) {i z:Nat} {f:Field} (hf:fs[i]? = some f) (hz:prog.cellsOf f.type=z) :
  ∃ m y,DataW.trod enc prog W bN (fun _=>true) held m f.type ((cs.drop f.offset).take z)=some y:=by
 obtain ⟨xs,n,rfl,_,_,hl,h2⟩:=DataW.trod_struct ht h;have:=h2 i f hf;rw [DC (by rw [hl];exact (DX.1 hf).1),hz] at this;exact ⟨_,_,this⟩
theorem fU {fuel:Nat} {t:TypeId} {cs:List Value} {x:DataW H×List MemPlace} {fs:Array Field} (ht:prog.underlying t=some (.struct fs)) (h:DataW.trod enc prog W bN (fun _=>true) held fuel t cs=some x) {i:Nat} {f:Field} {ks:List Kd} (hf:fs[i]? = some f) (hz:prog.cellsOf f.type=ks.length)
  (R:pC enc W bN held f.type ks):Pc ks f.offset cs:=by
 obtain ⟨m,y,e⟩:=fld ht h hf hz;exact R _ _ _ e
theorem sl_of {t e:TypeId} {ks:List Kd} (ht:prog.underlying t=some (.slice e)) (he:prog.cellsOf e=ks.length) (hz:0<ks.length) (R:pC enc W bN held e ks) {fuel:Nat} {v:Value} {x:DataW H×List MemPlace}
  (h:DataW.trod enc prog W bN (fun _=>true) held fuel t [v]=some x):dX (clean W.heap.size v)=false /\ ∃ n cs,SlN (cB W (view W)) ks (clean W.heap.size v) n cs:=by
 have nilT:uE ks 0 []:=⟨by simp,fun i hi=>absurd hi (E0 i)⟩
 rcases DataW.trod_slice ht h with ⟨h1,_⟩|⟨a,len,cap,elems,cI,n,_,h1,_,_,hlc,hcm,hl,hel,hsp,_⟩
 ·cases h1;exact ⟨rfl,0,[],none,0,rfl,fun _=>rfl,nilT,fun h=>absurd h (F9 0)⟩
 ·cases h1;rw [he] at hel hsp;have hpos:0<cap->a.spot=none/\a.block<W.heap.size:=by
   intro h0;have key : ∃ cs,W.cells? bN (a.add (0*ks.length)) ks.length=some cs:=by
    by_cases hlen:0<len
    ·have:=hel 0 hlen;rw [DC (by omega),DZ] at this;obtain ⟨cs,hc,_⟩:=this;exact ⟨cs,hc⟩
    ·have:=(hsp rfl).2 0 (by omega);rw [DC (by rw [(hsp rfl).1];omega),DZ] at this;obtain ⟨cs,hc,_⟩:=this;obtain rfl:len=0:=by omega
     exact ⟨cs,hc⟩
   obtain ⟨cs,hc⟩:=key;obtain ⟨_,hlen,hcell⟩:=World.cells?_some hc;have g:=hcell 0 hz;obtain ⟨c0,hc0⟩ : ∃ c0,cs[0]? = some c0:=⟨cs[0],DC (by omega)⟩
   rw [hc0,GK] at g;have g:W.cell? a=some c0:=g;obtain ⟨e1,e2,_⟩:=mU g;exact ⟨e1,e2⟩
  obtain ⟨g1,a',g2,g3⟩:=oO (W:=W) hlc hpos;refine ⟨g1,len,?_⟩;by_cases h0:len=0
  ·subst h0;exact ⟨[],_,_,g2,fun _=>rfl,nilT,fun h=>absurd h (F9 0)⟩
  have ha:=g3 (by omega);subst ha;have each : ∀ i,i<len -> ∃ k es,view W a'.block=some k/\cQ ks es /\ ∀ j,j<ks.length->k[a'.off+i*ks.length+j]? = es[j]? := by
   intro i hi;have h2:=hel i hi;rw [DC (by omega),DZ] at h2;obtain ⟨es,hc,ht⟩:=h2;have ty:=R _ _ _ ht;obtain ⟨_,hlen,hcell⟩:=World.cells?_some hc;have vc : ∀ j,j<ks.length -> ∃ k,view W a'.block=some k/\k[a'.off+i*ks.length+j]? = es[j]? := by intro j hj;obtain ⟨u,h3,h4⟩:=ty.2 j _ (DC hj);have g:=hcell j hj;rw [h3] at g;obtain ⟨_,_,k,hk,hc2⟩:=mU g;rw [qg,qg] at hk;rw [xy,xy,h4.clean] at hc2;exact ⟨k,hk,by rw [hc2,h3]⟩
   obtain ⟨k,hk,_⟩:=vc 0 hz;refine ⟨k,es,hk,ty,fun j hj => ?_⟩;obtain ⟨k',hk',e⟩:=vc j hj;rw [hk] at hk';cases hk';exact e
  obtain ⟨k,_,hk,_⟩:=each 0 (by omega);have each : ∀ i,i<len -> ∃ es,cQ ks es /\ ∀ j,j<ks.length->k[a'.off+i*ks.length+j]? = es[j]? := fun i hi=>by obtain ⟨k',es,hk',h1,h2⟩:=each i hi;rw [hk] at hk';cases hk';exact ⟨es,h1,h2⟩
  have hlen:a'.off+len*ks.length<=k.length:=by
   obtain ⟨es,ty,e⟩:=each (len-1) (by omega);have:=e (ks.length-1) (by omega);obtain ⟨u,hu,_⟩:=ty.2 (ks.length-1) _ (DC (by omega));rw [hu] at this;have:=(EP.1 this).1;have h9:len*ks.length=(len-1)*ks.length+ks.length:=by conv=>lhs;rw [show len=(len-1)+1 by omega,GY,Nat.one_mul]
   omega
  refine ⟨(k.drop a'.off).take (len*ks.length),_,_,g2,fun h=>(by cases h),⟨by rw [DW,D8];omega,fun i hi => ?_⟩,fun _=>⟨a'.block,a'.off,a'.spot,k,rfl,by rw [np];exact hk,hlen,rfl⟩⟩;obtain ⟨es,ty,e⟩:=each i hi;have hm:=BX (z:=ks.length) hi;have:(((k.drop a'.off).take (len*ks.length)).drop (i*ks.length)).take ks.length=es:=by
   refine FE fun j => ?_;rw [FA];by_cases hj:j<ks.length
   ·rw [DL hj,FB,FA,DL (by omega),FB,<-e j hj,F4]
   ·rw [DM hj,EK (by rw [ty.1];omega)]
  rw [this];exact ty
end
end
end Go.Proofs.YtdnahgfgoajmcaaGreatDoor
namespace Go.Proofs.YtdnahgfgoajmcaaGreatDoor
open Go Go.Abs Tryz
theorem wf_u64 {n:Int} (h:(Lit.int .u64 n).wf=true) : ∃ m:Nat,n=m/\m<18446744073709551616:=by simp [Lit.wf,IntKind.min,IntKind.max,IntKind.signed,IntKind.bits] at h;exact ⟨n.toNat,by omega,by omega⟩
theorem dig_of {xs:List Value} (h:cQ qS xs) : ∃ l,xs=aY l/\ic l:=by
 have hl:xs.length=32:=h.1;have key : ∀ n,n<=32 -> ∃ l:List Nat,xs.take n=aY l/\l.length=n/\w9 l:=by
  intro n;induction n with
  |zero=>exact fun _=>⟨[],rfl,rfl,fun x hx=>by cases hx⟩
  |succ n ih=>
   intro hn;obtain ⟨l,h1,h2,h3⟩:=ih (by omega);obtain ⟨m,h4,h5⟩:=C5 h (i:=n) (by omega);refine ⟨l ++ [m],?_,by simp [h2],fun x hx => ?_⟩
   ·rw [IP,h1,h4];simp [aY]
   ·rcases D9.1 hx with hx|hx
    ·exact h3 x hx
    ·simp only [FJ,F5,IL] at hx;subst hx;exact h5
 obtain ⟨l,h1,h2,h3⟩:=key 32 (DF _);rw [D1 (by omega)] at h1;exact ⟨l,h1,h2,h3⟩
theorem rec_of {xs:List Value} (h:cQ gX xs) : ∃ r,xs=bL r/\r.Wf:=by obtain ⟨a,o,b,c,d,e,f,g,rfl,ho,ha,wb,wc,wd,wf,wg⟩:=yU h;obtain ⟨l,rfl,hl⟩:=dig_of ho;obtain ⟨c,rfl,hc⟩:=wf_u64 wc;obtain ⟨d,rfl,hd⟩:=wf_u64 wd;exact ⟨⟨a,l,b,c,d,e,f,g⟩,rfl,ha,hl,si.1 wb,hc,hd,si.1 wf,si.1 wg⟩
theorem CH {ks:List Kd} {α:Type} {f:α->List Value} {P:α->Prop} (hf : ∀ xs,cQ ks xs -> ∃ a,xs=f a/\P a) : ∀ (n:Nat) (cs:List Value),uE ks n cs -> ∃ l:List α,l.length=n/\cs=l.flatMap f /\ ∀ a∈l,P a
 | 0,cs,h=>⟨[],rfl,by
   have:cs.length=0:=by rw [h.1,GK]
   exact DU.1 this,fun a ha=>by cases ha⟩
 |n+1,cs,h=>by
  have hl:cs.length=(n+1)*ks.length:=h.1;have h0:=h.2 0 (by omega);rw [GK,EJ] at h0;obtain ⟨a,ha,pa⟩:=hf _ h0;have hl2:(cs.drop ks.length).length=n*ks.length:=by rw [D8,hl,GY];omega
  obtain ⟨l,q1,q2,q3⟩:=CH hf n (cs.drop ks.length) ⟨hl2,fun i hi=>by have:=h.2 (i+1) (by omega);rw [E8,show ks.length+i*ks.length=(i+1)*ks.length by rw [GY];omega];exact this⟩
  refine ⟨a::l,by simp [q1],?_,fun b hb => ?_⟩
  ·rw [E4,<-ha,<-q2,EL]
  ·rcases FJ.1 hb with rfl|hb
   ·exact pa
   ·exact q3 b hb
theorem byte_of {xs:List Value} (h:cQ [.u8] xs) : ∃ b:Nat,xs = [u8 b]/\b<256:=by
 have hl:xs.length=1:=h.1
 match xs,hl with
 | [v],_=>
   obtain ⟨_,h1,a,rfl,ha⟩:=h.2 0 .u8 rfl;cases h1;exact ⟨a,rfl,ha⟩
theorem flat_one (l:List Nat):l.flatMap (fun b => [u8 b])=aY l:=by
 induction l with
 |nil=>rfl
 |cons x l ih=>rw [E4,ih];rfl
theorem pW {n:Nat} {cs:List Value} (h:uE [.u8] n cs) : ∃ l:List Nat,l.length=n/\cs=aY l/\w9 l:=by obtain ⟨l,h1,h2,h3⟩:=CH (f:=fun b => [u8 b]) (P:=fun b=>b<256) (fun xs hx=>byte_of hx) n cs h;exact ⟨l,h1,by rw [h2,flat_one],h3⟩
end Go.Proofs.YtdnahgfgoajmcaaGreatDoor
namespace Go.Proofs.YtdnahgfgoajmcaaGreatDoor
open Go Go.Abs Tryz
attribute [local congr] aq
theorem SlN.bytes {h:ad} {v:Value} {l:List Nat} (x:SlN h [.u8] v l.length (aY l)) (hb:w9 l) : ∃ a c,v = .slice a l.length c/\av a l.length h=some l/\(∀ y,a=some y->0<l.length->slB v=some y.block):=by
 obtain ⟨a,c,rfl,h1,h2,h3⟩:=x;refine ⟨a,c,rfl,?_,fun y hy hn => ?_⟩
 ·by_cases h0:l.length=0
  ·have:l = []:=DU.1 h0;subst this;cases a with
   |none=>rfl
   |some y=>unfold av firstA;simp;rfl
  ·obtain ⟨b,off,s,k,rfl,g,h4,h5⟩:=h3 (by omega);have h5:(k.drop off).take (l.length*1)=aY l:=h5;have h4:off+l.length*1<=k.length:=h4;rw [FT] at h4 h5;have e:k=k.take off++(aY l++k.drop (off+l.length)):=by rw [<-h5,<-List.drop_drop,EL,EL]
   exact fW g e (by rw [DW];omega) hb
 ·subst hy;obtain ⟨m,hm⟩ : ∃ m,l.length=m+1:=⟨l.length-1,by omega⟩
  rw [hm];rfl
end Go.Proofs.YtdnahgfgoajmcaaGreatDoor
namespace Go.Proofs.YtdnahgfgoajmcaaGreatDoor
open Go Go.Abs Tryz
open Go.ChangeShapes Go.WideShapes Go.ChangeAt Go.RowKit
section
theorem SlN.typed {h:ad} {ks:List Kd} {v:Value} {n:Nat} {cs:List Value} (x:SlN h ks v n cs):uE ks n cs:=by obtain ⟨a,c,rfl,_,h2,_⟩:=x;exact h2
section
variable {H:Type} {enc:TypeId×Value->H} {W:World} {bN:Nat} {held:Bool}
theorem rd5:pC enc W bN held 5 [.u8]:=tW Tryz.underlying5
theorem rd35:pC enc W bN held 36 qS:=reads_arr Tryz.underlying36 (by kernel_rfl) (by kernel_rfl) rd5
theorem rd58:pC enc W bN held 66 gX:=fun fuel cs x h=>by have p0:Pc [.u8] 0 cs:=fU Tryz.underlying66 h (i:=0) rfl (by kernel_rfl) (tW Tryz.underlying64);have p1:Pc qS 1 cs:=fU Tryz.underlying66 h (i:=1) rfl (by kernel_rfl) rd35;have p2:Pc [.i .i64] 33 cs:=fU Tryz.underlying66 h (i:=2) rfl (by kernel_rfl) (qx Tryz.underlying3);have p3:Pc [.i .u64] 34 cs:=fU Tryz.underlying66 h (i:=3) rfl (by kernel_rfl) (qx Tryz.underlying32);have p4:Pc [.i .u64] 35 cs:=fU Tryz.underlying66 h (i:=4) rfl (by kernel_rfl) (qx Tryz.underlying32);have p5:Pc [.b] 36 cs:=fU Tryz.underlying66 h (i:=5) rfl (by kernel_rfl) (reads_b Tryz.underlying4);have p6:Pc [.i .i64] 37 cs:=fU Tryz.underlying66 h (i:=6) rfl (by kernel_rfl) (qx Tryz.underlying3);have p7:Pc [.i .i64] 38 cs:=fU Tryz.underlying66 h (i:=7) rfl (by kernel_rfl) (qx Tryz.underlying3);obtain ⟨_,_,_,_,hl,_⟩:=DataW.trod_struct Tryz.underlying66 h;exact (((((((p0.CZ p1).CZ p2).CZ p3).CZ p4).CZ p5).CZ p6).CZ p7).whole (hl.trans (by kernel_rfl))
theorem sl23 {fuel:Nat} {v:Value} {x:DataW H×List MemPlace} (h:DataW.trod enc prog W bN (fun _=>true) held fuel 34 [v]=some x):dX (clean W.heap.size v)=false /\ ∃ n cs,SlN (cB W (view W)) [.u8] (clean W.heap.size v) n cs:=sl_of Tryz.underlying34 (ks := [.u8]) (by kernel_rfl) (by decide) rd5 h
end
def litOf {H:Type}:Value->DataW H
 | .int k n => .lit (.int k n)
 |_ => .agg []
theorem litOf_inj {H:Type} {v:Value} {k:IntKind} {n:Int} (h:(litOf v:DataW H) = .lit (.int k n)):v = .int k n:=by
 cases v with
 |int k' n'=>
  have h:(DataW.lit (Lit.int k' n'):DataW H) = .lit (.int k n):=h;have q:=Lit.int.inj (DataW.lit.inj h);rw [q.1,q.2]
 |_=>cases h
theorem sz:bX.length=64:=by kernel_rfl
theorem rounds_ints:(bX.all fun v=>match v with | .int _ _=>true|_=>false)=true:=by kernel_rfl
theorem nice_rounds (n:Nat) : ∀ v∈bX,clean n v=v:=by
 intro v hv;have h:=rounds_ints;rw [DT] at h;have h:=h v hv;cases v with
 |int k m=>exact rX rfl
 |_=>cases h
theorem tP (n:Nat):bX.map (clean n)=bX:=by rw [List.map_congr_left (nice_rounds n),List.map_id']
theorem uf {W:World} {fuel:Nat} {cs:List Value} {p:List MemPlace} {d:DataW Unit} (hd:d = .agg (bX.map litOf)) (h:DataW.trod (fun _=>()) prog W 0 (fun _=>true) false fuel 140 cs=some (d,p)):cs=bX:=by
 subst hd;obtain ⟨xs,m,rfl,hx,hl,hxl,hf⟩:=DataW.trod_array Tryz.underlying140 h;have h175:prog.cellsOf 140=64:=by kernel_rfl
 have h174:prog.cellsOf 139=1:=by kernel_rfl
 rw [h175] at hl;have hx:=FZ Prod.fst hx;have hx:(DataW.agg (bX.map litOf):DataW Unit) = .agg (xs.map (·.1)):=hx;have hx:=DataW.agg.inj hx;refine FE fun j => ?_;by_cases hj:j<64
 ·have e:=hf j hj;rw [DC (by omega),h174,FT] at e;obtain ⟨n,e1,e2,_⟩:=DataW.trod_int Tryz.underlying139 e;have q:(bX.map (litOf (H:=Unit)))[j]? = (xs.map (·.1))[j]? := by rw [hx]
  rw [EF,EF,DC (by rw [sz];exact hj),DC (by omega),e2] at q;have q:=litOf_inj (HM q);have e3:((cs.drop j).take 1)[0]? = some (.int .u32 n):=by rw [e1];rfl
  rw [FA,DL (by decide),FB,Nat.add_zero] at e3;rw [e3,DC (by rw [sz];exact hj),q]
 ·rw [EK (by omega),EK (by rw [sz];omega)]
end
end Go.Proofs.YtdnahgfgoajmcaaGreatDoor
namespace Go.Proofs.YtdnahgfgoajmcaaGreatDoor
open Go Go.Abs Tryz
theorem eq35:EqT 36 qS:=by intro xs ys hx hy;obtain ⟨r,h1,h2⟩:=tD (d:=9998) hx hy;exact ⟨r,h1,xg (by kernel_rfl) (dy hx.all.2.2) (dy hy.all.2.2) h2⟩
theorem add3 {a b:Nat} (h:a+b<=9223372036854775807):aC prog .add 3 (ak a) (.int .i64 (b:Int))=some (ak (a+b)):=by unfold ak;rw [lN,wrap_i64 (by omega) (by omega),Int.natCast_add]
theorem dh {a:Nat} (h:a+1<=9223372036854775807):aC prog .add 3 (ak a) (.int .i64 1)=some (ak (a+1)):=add3 h
theorem eK (a b:Nat):aC prog .lss 3 (ak a) (ak b)=some (.bool (decide (a<b))):=by
 rw [bG]
 congr 2
 by_cases e:a<b
 ·rw [DA e,DA (by omega)]
 ·rw [DB e,DB (by omega)]
section
theorem qV.empty (h:ad) {N size b:Nat} (hb:N<=b):qV h N size (.slice (some ⟨b,0,none⟩) 0 0) 0 []:=⟨by simp,rfl,rfl,.inr ⟨b,none,rfl,hb,.inl ⟨rfl,rfl⟩⟩⟩
theorem qV.bN {h:ad} {N size:Nat} {v:Value} {len:Nat} {cells:List Value} (o:qV h N size v len cells) {b:Nat} (hb:fG v=some b):N<=b:=by
 obtain ⟨_,_,_,⟨rfl,_⟩|⟨b',s,rfl,h5,_⟩⟩:=o
 ·cases hb
 ·cases hb;exact h5
end
section
theorem xF {h:ad} {a:Option Addr} {n c i:Nat} {l:List Nat} (e:av a n h=some l) (hi:i<n) : ∃ b p,a.map (·.block)=some b/\idxS 1 (.slice a n c) (ak i)=some (ptr b p)/\ld1 (ptr b p) h=some (u8 (l.getD i 0),h):=by obtain ⟨h1,h2,h3⟩:=aK e;obtain ⟨b,off,s,k,rfl,hk,hlen,hc⟩:=h3 (by omega);refine ⟨b,off+i,rfl,?_,aU hk (hc i hi) rfl⟩;unfold idxS;simp only [];rw [DL (by omega),Int.toNat_natCast,FT]
end
section
end
section
theorem is96:bP prog 114 f114:=by constructor<;>kernel_rfl
theorem b96_exit (C:aj) (e:aW) (h:ad):b96_4 C 0 e h=k96_2 C e h:=rfl
theorem app_lit {g:ad} {N x:Nat} {v:Value} {l:List Nat} (o:eS g N v l) (h0:g.n0<=N) (hN:N<=g.next) (hx:x<256) (hl:l.length<=1000000) :
  ∃ v' g',appendA 1 1 v (.slice (some ⟨g.next,0,none⟩) 1 1) (g.alloc [u8 x])=some (v',g')/\eS g' N v' (l ++ [x])/\az g g' (fun c=>fG v=some c):=by
 have ka:aA g (g.alloc [u8 x]):=az.alloc _ _ _;obtain ⟨v',g',e1,e2,e3,_⟩:=p8 (c:=1) (o.keep ka (fun _ _ h=>h)) (by rw [ka.n0];exact h0) (D5 hN ka.next) (jD g hx) (by omega);exact ⟨v',g',e1,e2,(ka.mono (fun _ _ h=>h.elim)).also e3 (fun _ _ h=>h)⟩
theorem r96 (h:ad) (hG:4<=h.n0) {n k:Nat} (h1:1<=k) (hk:k<=8) (_:n<18446744073709551616) : ∃ v h',CW 114 [.int .u64 (n:Int),ak k] h=some (v,h')/\eS h' h.next v (fL k n)/\aA h h':=by
 have oA:aA h (h.alloc []):=az.alloc _ _ _;have nA:(h.alloc []).next=h.next+1:=ad.cq ..;have own0:eS (h.alloc []) h.next (.slice (some ⟨h.next,0,none⟩) 0 0) []:=⟨qV.empty _ (DF _),by simp⟩
 have hn0:=h.n0_le_next;have hsub:aC prog .sub 3 (ak k) (.int .i64 1)=some (.int .i64 ((k:Int)-1)):=by unfold ak;rw [fi,wrap_i64 (by omega) (by omega)]
 have key : ∀ o,t96 CW (.int .u64 (n:Int)) (ak k) h=o -> ∃ v h',o=some (v,h')/\eS h' h.next v (fL k n)/\aA h h':=by
  intro o ho;subst ho;unfold t96;simp -implicitDefEqProofs only [ae,iY,hsub,af];refine bq (n:=24) (fin:=fun ex y g=>ex = .exit 0/\eS g h.next (y 5) (fL k n)/\aA h g) (Q:=fun o:aS => ∃ v h',o=some (v,h')/\eS h' h.next v (fL k n)/\aA h h')
   (bk (wV CW) (Inv:=fun m y g=>m<=k/\y 0 = .int .u64 (n:Int)/\y 6 = .int .i64 ((m:Int)-1)/\aA h g /\ ∃ cur,eS g h.next (y 5) cur/\cur++fL m n=fL k n) ?_ k (by have:aB=18446744073709551616:=rfl;omega)
    ⟨DF _,rfl,rfl,oA,[],own0,rfl⟩) ?_
  ·rintro m y g ⟨hm,y0,y6,old,cur,own,hcur⟩;have hclen:cur.length+m=k:=by have:=FZ List.length hcur;simpa [bO] using this
   unfold nO;simp -implicitDefEqProofs only [y6,ae,bH,af];by_cases hz:m=0
   ·subst hz;have hd:decide ((((0:Nat):Int)-1)>=0)=false:=by decide
    simp -implicitDefEqProofs only [hd];have:cur=fL k n:=by simpa [fL] using hcur
    exact cR.out 0 ⟨rfl,this▸own,old⟩
   ·obtain ⟨q,rfl⟩ : ∃ q,m=q+1:=⟨m-1,by omega⟩
    have hd:decide ((((q+1:Nat):Int)-1)>=0)=true:=DA (by omega);have hcu:IntKind.wrap .u64 (((q+1:Nat):Int)-1)=((q:Nat):Int):=by rw [wrap_u64 (by omega) (by omega)];omega
    have hm8:aC prog .mul 120 (.int .u64 8) (.int .u64 ((q:Nat):Int))=some (.int .u64 ((8*q:Nat):Int)):=by rw [iC,wrap_u64 (by omega) (by omega)];exact FZ (fun z=>some (Value.int .u64 z)) (by omega)
    have hsh:aC prog .shr 32 (.int .u64 (n:Int)) (.int .u64 ((8*q:Nat):Int))=some (.int .u64 ((n/256^q:Nat):Int)):=by rw [ez prog 32 (k := .u64) (k' := .u64) (b:=8*q) (by show 8*q<=64;omega)];rw [show (2:Nat)^(8*q)=256^q by rw [Nat.pow_mul]]
    have hcv:IntKind.wrap .u8 ((n/256^q:Nat):Int)=((n/256^q%256:Nat):Int):=by rw [fZ];omega
    have hlt8:n/256^q%256<256:=GV _ (by decide);generalize hx:n/256^q%256=x at *;obtain ⟨v',g',e1,e2,e3⟩:=app_lit own (by rw [old.n0];exact hn0) old.next hlt8 (by omega);have hsub2:aC prog .sub 3 (.int .i64 (((q+1:Nat):Int)-1)) (.int .i64 1)=some (.int .i64 ((q:Int)-1)):=by rw [fi,wrap_i64 (by omega) (by omega)];exact FZ (fun z=>some (Value.int .i64 z)) (by omega)
    simp -implicitDefEqProofs only [hd,y0,ae,af,du,hcu,hm8,hsh,hcv];rw [show (Value.int .u8 (x:Int))=u8 x from rfl,r9];simp -implicitDefEqProofs only [ae,e1,hsub2,af];refine cR.next q (by omega) ⟨by omega,y0,rfl,old.also e3 (fun c hc hb=>by have:=own.own.bN hb;omega),cur ++ [x],e2,?_⟩;rw [<-hcur,fL,hx,EC];rfl
  ·rintro ex z g ⟨rfl,own,old⟩;simp -implicitDefEqProofs only [aV,b96_exit,t96k96_2_eq];unfold xS;exact ⟨_,g,rfl,own,old⟩
 obtain ⟨v,h',e,o⟩:=key _ rfl;exact ⟨v,h',aD is96 hG rfl ((t96_eq _ _ _ _).trans e),o⟩
end
end Go.Proofs.YtdnahgfgoajmcaaGreatDoor
namespace Go.Proofs.YtdnahgfgoajmcaaGreatDoor
open Go Go.Abs Tryz
attribute [local congr] aq
end Go.Proofs.YtdnahgfgoajmcaaGreatDoor
namespace Go.Proofs.YtdnahgfgoajmcaaGreatDoor
open Go Go.Abs Tryz
end Go.Proofs.YtdnahgfgoajmcaaGreatDoor
namespace Go.Proofs.YtdnahgfgoajmcaaGreatDoor
open Go Go.Abs Tryz
attribute [local congr] aq
def GZ (h:ad):Prop:=h.get 0=some (aY z32)
theorem GZ.old {h h':ad} (x:GZ h) (o:aA h h'):GZ h':=aA.get o x
theorem GZ.ld {h:ad} (x:GZ h):cx 32 (ptr 0 0) h=some (.agg (aY z32).toArray,h):=bc x rfl (Cq _).1
def lj (r:ao):Bool:=decide (r.aN>=0)&&decide (r.aN<=15)&&decide ((r.gO:Int)>=1)
def wG (r:ao):Bool:=((r.oG:Int)==0)&&(!r.held)&&(r.k==0)&&(r.n==0)
theorem person_seg {h:ad} {b:Nat} {r:ao} (A:RLd h b r) (K:Value->ad->aS) :
 (
 ab (pu (aH (ptr b 0) 33) h) fun y5 h=>
 ab (ld1 y5 h) fun y6 h=>
 ab (pu (aC prog .geq 3 y6 (.int .i64 0)) h) fun y7 h=>
 ab (some (y7,h)) fun y8 h=>
 ab (ai (aR y8==some true) (pu (aH (ptr b 0) 33) h) h) fun y9 h=>
 ab (ai (aR y8==some true) (ld1 y9 h) h) fun y10 h=>
 ab (ai (aR y8==some true) (pu (aC prog .leq 3 y10 (.int .i64 15)) h) h) fun y11 h=>
 ab (match y8 with | .bool t=>some (if t then y11 else (.bool false),h)|_=>none) fun y12 h=>
 ab (some (y12,h)) fun y13 h=>
 ab (ai (aR y13==some true) (pu (aH (ptr b 0) 34) h) h) fun y14 h=>
 ab (ai (aR y13==some true) (ld1 y14 h) h) fun y15 h=>
 ab (ai (aR y13==some true) (pu (aC prog .geq 32 y15 (.int .u64 1)) h) h) fun y16 h=>
 ab (match y13 with | .bool t=>some (if t then y16 else (.bool false),h)|_=>none) fun y17 h=>
 ab (some (y17,h)) fun y3 h=>
 K y3 h)=K (.bool (lj r)) h:=by
 unfold lj;cases q0:decide (r.aN>=0) with
 |false=>simp -implicitDefEqProofs only [A.l33, ae, af, bw, fs, ax, DD, D3, ay, DG, bH, q0, EB]
 |true=>
 cases q1:decide (r.aN<=15) with
 |false=>simp -implicitDefEqProofs only [A.l33, ae, af, bw, fs, D4, aw, ax, DD, D3, DY, ay, DG, bH, bQ, q0, q1, EO, EB]
 |true=>
 cases q2:decide ((r.gO:Int)>=1) with
 |false=>simp -implicitDefEqProofs only [A.l33, A.l34, ae, af, bw, D4, aw, DY, ay, DG, bH, bQ, q0, q1, q2, DV, EO]
 |true=>
 simp -implicitDefEqProofs only [A.l33, A.l34, ae, af, bw, D4, aw, DY, ay, DG, bH, bQ, q0, q1, q2, DV]
theorem bare_seg {h:ad} {b:Nat} {r:ao} (A:RLd h b r) (K:Value->ad->aS) :
 (
 ab (pu (aH (ptr b 0) 35) h) fun y18 h=>
 ab (ld1 y18 h) fun y19 h=>
 ab (pu (aC prog .eql 32 y19 (.int .u64 0)) h) fun y20 h=>
 ab (some (y20,h)) fun y21 h=>
 ab (ai (aR y21==some true) (pu (aH (ptr b 0) 36) h) h) fun y22 h=>
 ab (ai (aR y21==some true) (ld1 y22 h) h) fun y23 h=>
 ab (ai (aR y21==some true) (pu (unA .not y23) h) h) fun y24 h=>
 ab (match y21 with | .bool t=>some (if t then y24 else (.bool false),h)|_=>none) fun y25 h=>
 ab (some (y25,h)) fun y26 h=>
 ab (ai (aR y26==some true) (pu (aH (ptr b 0) 37) h) h) fun y27 h=>
 ab (ai (aR y26==some true) (ld1 y27 h) h) fun y28 h=>
 ab (ai (aR y26==some true) (pu (aC prog .eql 3 y28 (.int .i64 0)) h) h) fun y29 h=>
 ab (match y26 with | .bool t=>some (if t then y29 else (.bool false),h)|_=>none) fun y30 h=>
 ab (some (y30,h)) fun y31 h=>
 ab (ai (aR y31==some true) (pu (aH (ptr b 0) 38) h) h) fun y32 h=>
 ab (ai (aR y31==some true) (ld1 y32 h) h) fun y33 h=>
 ab (ai (aR y31==some true) (pu (aC prog .eql 3 y33 (.int .i64 0)) h) h) fun y34 h=>
 ab (match y31 with | .bool t=>some (if t then y34 else (.bool false),h)|_=>none) fun y35 h=>
 ab (some (y35,h)) fun y4 h=>
 K y4 h)=K (.bool (wG r)) h:=by
 unfold wG;cases q0:((r.oG:Int)==0) with
 |false=>simp -implicitDefEqProofs only [A.l35, ae, af, bw, fs, ax, DD, D3, ay, DG, bA, q0, EB]
 |true=>
 cases q1:(!r.held) with
 |false=>simp -implicitDefEqProofs only [A.l35, A.l36, ae, af, bw, fs, D4, aw, ax, DD, D3, DY, ay, DG, aT, bA, q0, q1, EO, EB]
 |true=>
 cases q2:(r.k==0) with
 |false=>simp -implicitDefEqProofs only [A.l35, A.l36, A.l37, ae, af, bw, fs, D4, aw, ax, DD, D3, DY, ay, DG, aT, bA, q0, q1, q2, DV, EO, EB]
 |true=>
 cases q3:(r.n==0) with
 |false=>simp -implicitDefEqProofs only [A.l35, A.l36, A.l37, A.l38, ae, af, bw, D4, aw, DY, ay, DG, aT, bA, q0, q1, q2, q3, DV, EO]
 |true=>
 simp -implicitDefEqProofs only [A.l35, A.l36, A.l37, A.l38, ae, af, bw, D4, aw, DY, ay, DG, aT, bA, q0, q1, q2, q3, DV]
def recR (r:ao):Bool:=if (r.kind:Int)==1 then lj r&&wG r&&decide (r.obj=z32) else if (r.kind:Int)==2 then wG r&&(r.aN==0)&&((r.gO:Int)==0) else if (r.kind:Int)==3 then lj r&&decide ((r.oG:Int)>=1)&&decide (1<=r.k)&&decide (r.k<=r.n)&&decide (r.n<=255) else false
theorem AZ (r:ao):lj r=im r:=by
 unfold lj im
 congr 2
 exact HQ.2 (by omega)
theorem BN (r:ao):wG r=true↔r.oG=0/\r.held=false/\r.k=0/\r.n=0:=by
 unfold wG;simp only [DJ,beq_iff_eq,FK];constructor
 ·rintro ⟨⟨⟨h1,h2⟩,h3⟩,h4⟩;exact ⟨by omega,h2,h3,h4⟩
 ·rintro ⟨h1,h2,h3,h4⟩;exact ⟨⟨⟨by omega,h2⟩,h3⟩,h4⟩
theorem recR_eq (r:ao):recR r=de r:=by
 unfold recR de vz;rw [AZ];split
 ·rw [HZ];simp only [DJ,DR,BN];constructor
  ·rintro ⟨⟨h1,h2,h3,h4,h5⟩,h6⟩;refine ⟨?_,h1⟩;unfold ao.bN ao.z;exact ao.ext rfl h6 rfl rfl h2 h3 h4 h5
  ·rintro ⟨h1,h2⟩;refine ⟨⟨h2,?_⟩,?_⟩
   ·rw [h1];exact ⟨rfl,rfl,rfl,rfl⟩
   ·rw [h1];rfl
 split
 ·rw [HZ];simp only [DJ,DR,BN,beq_iff_eq];constructor
  ·rintro ⟨⟨⟨h2,h3,h4,h5⟩,h6⟩,h7⟩;unfold ao.grave ao.z;exact ao.ext rfl rfl h6 (by show r.gO=0;omega) h2 h3 h4 h5
  ·intro h1;refine ⟨⟨?_,?_⟩,?_⟩
   ·rw [h1];exact ⟨rfl,rfl,rfl,rfl⟩
   ·rw [h1];rfl
   ·rw [h1];rfl
 ·rfl
theorem is48:bP prog 36 f36:=by constructor<;>kernel_rfl
set_option maxRecDepth 100000 in
theorem r48 {h:ad} (hG:4<=h.n0) (hz:GZ h) {r:ao} (w:r.Wf) : ∃ h',CW 36 [.agg (bL r).toArray] h=some (.bool (de r),h')/\aA h h':=by
 obtain ⟨h1,b1,o1,A⟩:=xq h w;have z1:=(hz.old o1).ld;obtain ⟨q,hq,e28,_⟩:=eq35 (aY r.obj) (aY z32) (cH w.obj) (cH yM);have hq:q=decide (r.obj=z32):=by
  by_cases e:r.obj=z32
  ·rw [DA e,hq.2 (by rw [e])]
  ·rw [DB e];cases q with
   |false=>rfl
   |true=>exact absurd (tv (hq.1 rfl)) e
 rw [hq] at e28;refine ⟨h1,aD is48 hG rfl ((t48_eq _ _ _).trans ?_),o1⟩;rw [<-recR_eq];unfold t48;rw [b1,ae,ae];refine (person_seg A _).trans ?_;refine (bare_seg A _).trans ?_;unfold recR;cases k1:(r.kind:Int)==1 with
 |true=>
  rw [DL rfl];cases q0:lj r with
  |false=>simp -implicitDefEqProofs only [A.l0, k1, ae, af, bw, fs, ax, DD, D3, ay, DG, bA, EB]
  |true=>
  cases q1:wG r with
  |false=>simp -implicitDefEqProofs only [A.l0, k1, ae, af, bw, fs, D4, aw, ax, DD, D3, DY, ay, DG, bA, EO, EB]
  |true=>
  simp -implicitDefEqProofs only [A.l0, A.l1, k1, z1, e28, ae, af, bw, D4, aw, DY, ay, DG, bA, DV, EE]
 |false=>
 rw [DM (by decide)];cases k2:(r.kind:Int)==2 with
 |true=>
  rw [DL rfl];cases q0:wG r with
  |false=>simp -implicitDefEqProofs only [A.l0, k1, k2, ae, af, bw, fs, ax, DD, D3, ay, DG, bA, EB]
  |true=>
  cases q1:(r.aN==0) with
  |false=>simp -implicitDefEqProofs only [A.l0, A.l33, k1, k2, ae, af, bw, fs, D4, aw, ax, DD, D3, DY, ay, DG, bA, q1, EO, EB]
  |true=>
  simp -implicitDefEqProofs only [A.l0, A.l33, A.l34, k1, k2, ae, af, bw, D4, aw, DY, ay, DG, bA, q1, DV, EE]
 |false=>
 rw [DM (by decide)];cases k3:(r.kind:Int)==3 with
 |true=>
  rw [DL rfl];cases q0:lj r with
  |false=>simp -implicitDefEqProofs only [A.l0, k1, k2, k3, ae, af, bw, fs, ax, DD, D3, ay, DG, bA, EB]
  |true=>
  cases q1:decide ((r.oG:Int)>=1) with
  |false=>simp -implicitDefEqProofs only [A.l0, A.l35, k1, k2, k3, ae, af, bw, fs, D4, aw, ax, DD, D3, DY, ay, DG, bH, bA, q1, EO, EB]
  |true=>
  cases q2:decide (1<=r.k) with
  |false=>simp -implicitDefEqProofs only [A.l0, A.l35, A.l37, k1, k2, k3, ae, af, bw, fs, D4, aw, ax, DD, D3, DY, ay, DG, bH, bQ, bA, q1, q2, DV, EO, EB]
  |true=>
  cases q3:decide (r.k<=r.n) with
  |false=>simp -implicitDefEqProofs only [A.l0, A.l35, A.l37, A.l38, k1, k2, k3, ae, af, bw, fs, D4, aw, ax, DD, D3, DY, ay, DG, bH, bQ, bA, q1, q2, q3, DV, EO, EB]
  |true=>
  cases q4:decide (r.n<=255) with
  |false=>simp -implicitDefEqProofs only [A.l0, A.l35, A.l37, A.l38, k1, k2, k3, ae, af, bw, D4, aw, DY, ay, DG, bH, bQ, bA, q1, q2, q3, q4, DV, EO]
  |true=>
  simp -implicitDefEqProofs only [A.l0, A.l35, A.l37, A.l38, k1, k2, k3, ae, af, bw, D4, aw, DY, ay, DG, bH, bQ, bA, q1, q2, q3, q4, DV]
 |false=>
 rw [DM (by decide)];simp -implicitDefEqProofs only [A.l0, k1, k2, k3, ae, af, bw, ay, DG, bA]
section
theorem ze (k:IntKind) (n:Int) (h:ad):bF true (some (.int k n,h)) (.int k n)=true:=by simp [bF,same,sN]
section
variable {h h1:ad} {a:Option Addr} {n c:Nat} {l:List Nat} {y:Nat->Value}
end
end
theorem bytesL (h:ad) {l:List Nat} (hb:w9 l):av (some ⟨h.next,0,none⟩) l.length (h.alloc (aY l))=some l:=by have:=cG (h:=h.alloc (aY l)) (b:=h.next) (off:=0) (n:=l.length) (s:=none) (l:=l) (by rw [ad.aF,DL rfl]) (by simp) hb;rw [this,EJ,D1 (DF _)]
theorem eS.weak {h:ad} {N M:Nat} {v:Value} {l:List Nat} (o:eS h N v l) (hM:M<=N):eS h M v l:=by
 obtain ⟨⟨h1,h2,h3,h4⟩,hb⟩:=o;refine ⟨⟨h1,h2,h3,?_⟩,hb⟩;rcases h4 with h4|⟨b,s,e,h5,h6⟩
 ·exact .inl h4
 ·exact .inr ⟨b,s,e,by omega,h6⟩
theorem sA {h:ad} {b off n k c:Nat} {a:Option Addr} {l m:List Nat} (hl:av (some ⟨b,off,none⟩) n h=some l) (hm:av a k h=some m) (hk:0<k) (hb:n+k<=100000000) :
  ∃ v' h',appendA 1 1 (.slice (some ⟨b,off,none⟩) n n) (.slice a k c) h=some (v',h')/\eS h' h.next v' (l++m)/\aA h h':=by
 obtain ⟨l1,lb,_⟩:=aK hl;obtain ⟨m1,mb,_⟩:=aK hm;have f1:=hJ hl (DF n) (c:=n);rw [D1 (by omega)] at f1;have f2:=hJ hm (DF k) (c:=c);rw [D1 (by omega)] at f2;refine ⟨.slice (some ⟨h.next,0,some 1⟩) (n+k) (n+k),h.alloc (aY l++aY m),?_,⟨⟨?_,?_,?_,.inr ⟨h.next,some 1,?_,DF _,.inr ⟨rfl,?_⟩⟩⟩,?_⟩,az.alloc _ _ _⟩
 ·unfold appendA;simp only [show ie (.slice a k c)=some k from rfl,f1,f2];have c1:((!(aJ (m.map u8)) || !(decide ((n+k)*1<=140737488355328)) || !(decide (n+k<=4611686018427387904))||decide ((m.map u8).length≠k*1))=true)↔False:=by rw [pz,DA (by omega),DA (by omega),DB (by simp;omega)];simp
  rw [DM (by rw [c1];exact id),DM (by omega),DM (by simp;omega)]
 ·simp
 ·rw [FG];exact iK _ _ (fQ _) (fQ _)
 ·rw [FG];exact gM _ _ (pz _) (pz _)
 ·rw [DH,l1,m1]
 ·rw [ad.aF,DL rfl,FG]
 ·intro x hx;rcases D9.1 hx with hx|hx
  ·exact lb x hx
  ·exact mb x hx
theorem yq {h0 g:ad} {v:Value} {l m:List Nat} {a:Option Addr} {n c:Nat} (K:aA h0 g) (o:eS g h0.next v l) (hm:av a n g=some m) (hb:l.length+n<=100000000) : ∃ v' g2,appendA 1 1 v (.slice a n c) g=some (v',g2)/\eS g2 h0.next v' (l++m)/\aA h0 g2:=by obtain ⟨v',g2,e1,e2,k,_⟩:=p8 o (by rw [K.n0];exact h0.n0_le_next) K.next hm hb (c:=c);exact ⟨v',g2,e1,e2,K.also k (fun d hd e=>by have:=o.own.bN e;omega)⟩
theorem app_own {h0 g g1:ad} {v w:Value} {l m:List Nat} {N:Nat} (K:aA h0 g) (o:eS g h0.next v l) (o1:aA g g1) (ow:eS g1 N w m) (hb:l.length+m.length<=100000000) : ∃ v' g2,appendA 1 1 v w g1=some (v',g2)/\eS g2 h0.next v' (l++m)/\aA h0 g2:=by obtain ⟨a,c,rfl,s,_,_⟩:=ow.bytes;exact yq (K.trans o1) (o.keep o1 (fun _ _ h=>h)) s hb
theorem xj {h0 g:ad} {v:Value} {l:List Nat} {x:Nat} (K:aA h0 g) (o:eS g h0.next v l) (hx:x<256) (hb:l.length+1<=100000000) : ∃ v' g2,appendA 1 1 v (.slice (some ⟨g.next,0,none⟩) 1 1) (g.alloc [u8 x])=some (v',g2)/\eS g2 h0.next v' (l ++ [x])/\aA h0 g2:=by have ka:aA g (g.alloc [u8 x]):=az.alloc _ _ _;exact yq (c:=1) (K.trans ka) (o.keep ka (fun _ _ h=>h)) (jD g hx) hb
theorem beB1 {x:Nat} (h:x<256):fL 1 x = [x]:=by simp [fL,GG h]
theorem is46:bP prog 94 f94:=by constructor<;>kernel_rfl
theorem is97:bP prog 115 f115:=by constructor<;>kernel_rfl
theorem r97 {h:ad} (hG:4<=h.n0) (b:Bool):CW 115 [.bool b] h=some (.int .u64 ((BR b:Nat):Int),h):=by refine aD is97 hG rfl ((t97_eq _ _ _).trans ?_);unfold t97;cases b<;>rfl
theorem cv8i (k:IntKind) (x:Int) (h:ad):jC .u8 (.int k x) h=some (u8 (i8 x),h):=by rw [du,BZ]
theorem chkU (x:Nat) (h:ad):bF true (some (u8 x,h)) (u8 x)=true:=ze .u8 _ _
theorem enc3 (a b c:Nat) (ha:a<256) (hb:b<256) (hc:c<256):fL 1 a++(fL 1 b++fL 1 c) = [a,b,c]:=by rw [beB1 ha,beB1 hb,beB1 hc];rfl
theorem bsl3 (h:ad) (x y z:Nat):cg 1 (.int .u8 0) 3 [(0,u8 x),(1,u8 y),(2,u8 z)] h=some (.slice (some ⟨h.next,0,none⟩) 3 3,h.alloc (aY [x,y,z])):=rfl
set_option maxRecDepth 100000 in
theorem r46 {h:ad} (hG:4<=h.n0) (hz:GZ h) {r:ao} (w:r.Wf) (hv:de r=true) : ∃ v h',CW 94 [.agg (bL r).toArray] h=some (.tuple #[v,.int .i64 0],h')/\eS h' h.next v (jI r)/\aA h h':=by
 have cr:=aM w;have b1:box (.agg (bL r).toArray) h=some (ptr h.next 0,h.alloc (bL r)):=dG h _ cr.2.2;have o1:aA h (h.alloc (bL r)):=az.alloc _ _ _;have g1:(h.alloc (bL r)).get h.next=some (bL r):=by rw [ad.aF,DL rfl]
 have n1:(h.alloc (bL r)).next=h.next+1:=ad.cq ..;generalize h.alloc (bL r)=h1 at *;have L : ∀ g,aA h1 g->RLd g h.next r:=fun g o=>js w (aA.get o g1);have A1:=L h1 (az.refl _ _);obtain ⟨h2,e2,o2⟩:=r48 (h:=h1) (by rw [o1.n0];exact hG) (hz.old o1) w;rw [hv] at e2;have A2:=L h2 o2;have O2:=o1.trans o2;have ha:=ym h.next 1;have hs2 : ∀ g,aA h1 g->av (some ⟨h.next,1,none⟩) 32 g=some r.obj:=fun g o=>by have:=fW (s:=none) (aA.get o g1) (show bL r = [.int .u8 (r.kind:Int)]++(aY r.obj ++ [.int .i64 r.aN,.int .u64 (r.gO:Int),.int .u64 (r.oG:Int),.bool r.held,.int .i64 r.k,.int .i64 r.n]) from rfl) rfl w.obj.2;rw [w.obj.1] at this;exact this
 have b3:=r9 h2 r.kind;have ka:aA h2 (h2.alloc [u8 r.kind]):=az.alloc _ _ _;obtain ⟨v4,h4,e4,O4,k4⟩:=sA (c:=32) (jD h2 w.kind) (hs2 _ (o2.trans ka)) (by decide) (by decide);have K4:=(o2.trans ka).trans k4;have O4:=O4.weak (M:=h1.next) (D5 o2.next ka.next);have A4:=L h4 K4;have cv1:=cv8i .i64 r.aN h4;have b5:=r9 h4 (i8 r.aN);obtain ⟨v5,h5,e5,O5,K5⟩:=xj (h0:=h1) K4 O4 (mR r.aN) (by simp [w.obj.1]);have A5:=L h5 K5;have G5:4<=h5.n0:=by rw [K5.n0,o1.n0];exact hG
 obtain ⟨w6,h6,e6,W6,k6⟩:=r96 h5 G5 (n:=r.gO) (k:=8) (by decide) (by decide) w.gO;have e6:CW 114 [.int .u64 (r.gO:Int),.int .i64 8] h5=_:=e6;obtain ⟨v7,h7,e7,O7,K7⟩:=app_own K5 O5 k6 W6 (by simp [w.obj.1,bO]);have A6:=L h6 (K5.trans k6);have A7:=L h7 K7;have G7:4<=h7.n0:=by rw [K7.n0,o1.n0];exact hG
 obtain ⟨w8,h8,e8,W8,k8⟩:=r96 h7 G7 (n:=r.oG) (k:=8) (by decide) (by decide) w.oG;have e8:CW 114 [.int .u64 (r.oG:Int),.int .i64 8] h7=_:=e8;obtain ⟨v9,h9,e9,O9,K9⟩:=app_own K7 O7 k8 W8 (by simp [w.obj.1,bO]);have A9:=L h9 K9;have G9:4<=h9.n0:=by rw [K9.n0,o1.n0];exact hG
 have e10:=r97 G9 r.held;have hbit:=bit_lt r.held;have cvb:jC .u8 (.int .u64 ((BR r.held:Nat):Int)) h9=some (u8 (BR r.held),h9):=by rw [du,wrap_u8 (by omega) (by omega)]
 have cvk:=cv8i .i64 r.k h9;have cvn:=cv8i .i64 r.n h9;have b11:=bsl3 h9 (BR r.held) (i8 r.k) (i8 r.n);have ka9:aA h9 (h9.alloc (aY [BR r.held,i8 r.k,i8 r.n])):=az.alloc _ _ _;have hb3:w9 [BR r.held,i8 r.k,i8 r.n]:=fun x hx=>by
  simp only [FJ,F5,IL] at hx;rcases hx with rfl|rfl|rfl
  ·omega
  ·exact mR _
  ·exact mR _
 obtain ⟨v12,h12,e12,O12,K12⟩:=yq (c:=3) (K9.trans ka9) (O9.keep ka9 (fun _ _ h=>h)) (bytesL h9 hb3) (by simp [w.obj.1,bO]);have e12:appendA 1 1 v9 (.slice (some ⟨h9.next,0,none⟩) 3 3) (h9.alloc (aY [BR r.held,i8 r.k,i8 r.n]))=some (v12,h12):=e12;have cku1:=chkU (i8 r.k) h9;have cku2:=chkU (i8 r.n) h9;refine ⟨v12,h12,aD is46 hG rfl ((t46_eq _ _ _).trans ?_),?_,o1.trans K12⟩
 ·unfold t46;simp -implicitDefEqProofs only [b1, A1.all, e2, A2.l0, ha, b3, e4, A4.l33, cv1, b5, e5, A5.l34, e6, e7, A7.l35, A5.l35, A6.l35, e8, e9, A9.l36, e10, cvb, A9.l37, A9.l38, cvk, cvn, b11, e12, ze, cku1, cku2, ae, af, DP, aT, DV, FD, ay, DG]
 ·have O12:=O12.weak (M:=h.next) (by omega);have ee:jI r=((((([r.kind]++r.obj) ++ [i8 r.aN])++fL 8 r.gO)++fL 8 r.oG) ++ [BR r.held,i8 r.k,i8 r.n]):=by unfold jI;rw [beB1 w.kind,beB1 (mR _),enc3 _ _ _ (by omega) (mR _) (mR _)];simp only [EC]
  rw [ee];exact O12
theorem sM (l:List Nat):(cz l).size=l.length:=by simp [cz,ByteArray.size]
theorem strOf_add (l m:List Nat):cz l++cz m=cz (l++m):=by apply ByteArray.ext;rw [ByteArray.data_append];simp [cz]
theorem str_add {a b:ByteArray} (h:a.size+b.size<=1000000):aC prog .add 9 (.string a) (.string b)=some (.string (a++b)):=by
 unfold aC CQ;simp only [DY];unfold binA;simp only [ground,flat,FD,DY];have e : (binOp .add 9 (.string a) (.string b)) = (if ((a.size + b.size : Nat) : Int) > IntKind.i64.max then unsupported (Unsupported.resourceLimit "string concatenation: a sum of the lengths that is no int") else pure (.string (a ++ b))) := rfl
 rw [e,DM (by have:IntKind.i64.max=9223372036854775807:=rfl;omega)];rfl
theorem add_str (l m:List Nat) (h:l.length+m.length<=1000000):aC prog .add 9 (.string (cz l)) (.string (cz m))=some (.string (cz (l++m))):=by rw [str_add (by rw [sM,sM];exact h),strOf_add]
theorem chkS (s:ByteArray) (h:ad):bF true (some (.string s,h)) (.string s)=true:=by simp [bF,same,sN]
theorem plus_get {h a b:ad} {k:iM} (hk:b.getB a.next=some (.cells k)) (hn:h.next<=a.next):(ad.plus true h a b).get a.next=some k:=by unfold ad.plus;rw [DL rfl,hk];obtain ⟨_,_,p3,_⟩:=ad.yY h (a.next-h.next);simp only;refine ad.get_of_getB _ ?_;show ((ad.pad (a.next-h.next) h).bn (.cells k)).getB a.next=_;rw [ad.bI,p3,DL (by omega)]
def dx (r:ao):List Nat := [r.kind]++r.obj ++ [i8 r.aN]
theorem xZ {r:ao} (w:r.Wf):(dx r).length=34:=by unfold dx;simp [w.obj.1]
theorem kL {r:ao} (w:r.Wf):w9 (dx r):=by
 intro x hx;unfold dx at hx;simp only [D9,FJ,F5,IL] at hx;rcases hx with (rfl|hx)|rfl
 ·exact w.kind
 ·exact w.obj.2 x hx
 ·exact mR _
theorem obj_sl {g:ad} {b:Nat} {r:ao} (w:r.Wf) (g1:g.get b=some (bL r)):av (some ⟨b,1,none⟩) 32 g=some r.obj:=by have:=fW (s:=none) g1 (show bL r = [.int .u8 (r.kind:Int)]++(aY r.obj ++ [.int .i64 r.aN,.int .u64 (r.gO:Int),.int .u64 (r.oG:Int),.bool r.held,.int .i64 r.k,.int .i64 r.n]) from rfl) rfl w.obj.2;rw [w.obj.1] at this;exact this
theorem is67:bP prog 52 f52:=by constructor<;>kernel_rfl
theorem is27:bP prog 63 f63:=by constructor<;>kernel_rfl
theorem is59:bP prog 34 f34:=by constructor<;>kernel_rfl
set_option maxRecDepth 100000 in
theorem r59 {h:ad} (hG:4<=h.n0) {r:ao} (w:r.Wf) : ∃ h',CW 34 [.agg (bL r).toArray] h=some (.string (cz (dx r)),h')/\aA h h':=by
 obtain ⟨h1,b1,o1,g1,n1⟩:=cJ h w;have A1:=js w g1;have ha:=ym h.next 1;have c9:=jj (c:=32) (obj_sl w g1);have cv1:=cv8i .i64 r.aN h1;have b5:=r9 h1 r.kind;have ka:aA h1 (h1.alloc [u8 r.kind]):=az.alloc _ _ _;have c6:=jj (c:=1) (jD h1 w.kind);have s1:aC prog .add 9 (.string (cz [r.kind])) (.string (cz r.obj))=some (.string (cz ([r.kind]++r.obj))):=add_str _ _ (by simp [w.obj.1]);have b14:=r9 (h1.alloc [u8 r.kind]) (i8 r.aN);have kb:aA (h1.alloc [u8 r.kind]) ((h1.alloc [u8 r.kind]).alloc [u8 (i8 r.aN)]):=az.alloc _ _ _;have c15:=jj (c:=1) (jD (h1.alloc [u8 r.kind]) (mR r.aN));have s2:aC prog .add 9 (.string (cz ([r.kind]++r.obj))) (.string (cz [i8 r.aN]))=some (.string (cz (dx r))):=add_str _ _ (by simp [w.obj.1]);have nx:(h1.alloc [u8 r.kind]).next=h1.next+1:=ad.cq ..;have gp:((h1.alloc [u8 r.kind]).alloc [u8 (i8 r.aN)]).getB (h1.alloc [u8 r.kind]).next=some (.cells [u8 (i8 r.aN)]):=by rw [ad.cF,DL rfl]
 have pl:pX (.slice (some ⟨(h1.alloc [u8 r.kind]).next,0,none⟩) 1 1) (ad.plus true h1 (h1.alloc [u8 r.kind]) ((h1.alloc [u8 r.kind]).alloc [u8 (i8 r.aN)]))=some (.string (cz [i8 r.aN]),ad.plus true h1 (h1.alloc [u8 r.kind]) ((h1.alloc [u8 r.kind]).alloc [u8 (i8 r.aN)])):=by
  have g:=plus_get (h:=h1) gp (by omega);have e:=cG (off:=0) (n:=1) (s:=none) (l := [i8 r.aN]) g (by simp) (fun x hx=>by simp only [FJ,F5,IL] at hx;subst hx;exact mR _)
  exact jj e
 refine ⟨_,aD is59 hG rfl ((t59_eq _ _ _).trans ?_),(o1.trans ka).trans kb⟩;unfold t59;simp -implicitDefEqProofs only [b1, A1.l0, A1.l33, ha, c9, cv1, b5, c6, s1, b14, c15, s2, pl, chkS, ae, af, ay, DG, DV]
theorem BY {h:ad} {b len cap n c:Nat} {s:Option Nat} {a:Option Addr} {A B C:List Value} {l:List Nat} (g:h.get b=some (A++(B++C))) (h0:h.n0<=b) (hA:A.length=len) (hB:B.length=n) (hs:av a n h=some l) (hn:0<n) (hc:len+n<=cap) (hk:len+n<=1000000) :
  ∃ g',appendA 1 1 (.slice (some ⟨b,0,s⟩) len cap) (.slice a n c) h=some (.slice (some ⟨b,0,s⟩) (len+n) cap,g')/\az h g' (· = b)/\g'.get b=some (A++(aY l++C))/\g'.next=h.next:=by
 obtain ⟨hl,hb,_⟩:=aK hs;have hf:=hJ hs (DF n) (c:=c);rw [D1 (by omega)] at hf;have hsp:splice (A++(B++C)) len (aY l)=A++(aY l++C):=ku hA hB (by rw [DS];exact hl);refine ⟨h.set b (A++(aY l++C)),?_,az.set h0 g (.inr rfl),ad.dF h0 g _,rfl⟩;unfold appendA;simp only [ie,hf];have c1:(!(aJ (l.map u8)) || !(decide ((len+n)*1<=140737488355328)) || !(decide (len+n<=4611686018427387904))||decide ((l.map u8).length≠n*1))=false:=by rw [pz,DA (by omega),DA (by omega),DB (by simp;omega)];rfl
 rw [DM (by rw [c1];decide),DL hc,DM (by omega)];unfold stL;rw [DG,FT];simp only [g];rw [DL (by
  have h1:len+(aY l).length<=(A++(B++C)).length:=by rw [DH,DH,DS,hA,hB];omega
  simp only [DA h0,DA h1,(Cq l).2,FD]),hsp]
 rfl
set_option maxRecDepth 100000 in
theorem r67 {h:ad} (hG:4<=h.n0) {r:ao} (w:r.Wf) : ∃ a c h',CW 52 [.agg (bL r).toArray] h=some (.slice a 34 c,h')/\av a 34 h'=some (dx r)/\aA h h':=by
 obtain ⟨h1,b1,o1,g1,n1⟩:=cJ h w;have m4:mkR 1 1 (.int .u8 0) (.int .i64 0) (.int .i64 34) h1=some (.slice (some ⟨h1.next,0,none⟩) 0 34,h1.alloc (cU [.int .u8 0] 34)):=rfl;have o2:aA h1 (h1.alloc (cU [.int .u8 0] 34)):=az.alloc _ _ _;have g2:(h1.alloc (cU [.int .u8 0] 34)).get h1.next=some ([]++([.int .u8 0]++(List.replicate 33 (.int .u8 0)))):=by rw [ad.aF,DL rfl];rfl
 have n2:(h1.alloc (cU [.int .u8 0] 34)).next=h1.next+1:=ad.cq ..;generalize h1.alloc (cU [.int .u8 0] 34)=h2 at *;have G2:=aA.get o2 g1;have A2:=js w G2;have b3:=r9 h2 r.kind;have o3:aA h2 (h2.alloc [u8 r.kind]):=az.alloc _ _ _;have s3:=jD h2 w.kind;have n3:(h2.alloc [u8 r.kind]).next=h2.next+1:=ad.cq ..;generalize h2.alloc [u8 r.kind]=h3 at *;have p1:h2.n0<=h1.next:=by rw [o2.n0];exact h1.n0_le_next
 have p3:h3.n0<=h1.next:=by rw [o3.n0];exact p1
 obtain ⟨h4,e4,k4,g4,n4⟩:=BY (cap:=34) (s:=none) (c:=1) (len:=0) (aA.get o3 g2) p3 rfl rfl s3 (by decide) (by decide) (by decide);have hne : ¬(h.next=h1.next):=by omega
 have G4:h4.get h.next=some (bL r):=az.getE k4 (aA.get o3 G2) hne;have A4:=js w G4;have ha:=ym h.next 1;have p4:h4.n0<=h1.next:=by rw [k4.n0];exact p3
 have g4:h4.get h1.next=some (aY [r.kind]++(List.replicate 32 (.int .u8 0) ++ [.int .u8 0])):=g4.trans rfl;obtain ⟨h5,e5,k5,g5,n5⟩:=BY (cap:=34) (s:=none) (c:=32) (len:=1) g4 p4 rfl rfl (obj_sl w G4) (by decide) (by decide) (by decide);have G5:h5.get h.next=some (bL r):=az.getE k5 G4 hne;have A5:=js w G5;have cv1:=cv8i .i64 r.aN h5;have b6:=r9 h5 (i8 r.aN);have o6:aA h5 (h5.alloc [u8 (i8 r.aN)]):=az.alloc _ _ _;have s6:=jD h5 (mR r.aN);generalize h5.alloc [u8 (i8 r.aN)]=h6 at *;have p6:h6.n0<=h1.next:=by rw [o6.n0,k5.n0];exact p4
 have g5:h5.get h1.next=some ((aY [r.kind]++aY r.obj)++([.int .u8 0] ++ [])):=by rw [g5];simp
 obtain ⟨h7,e7,k7,g7,n7⟩:=BY (cap:=34) (s:=none) (c:=1) (len:=33) (aA.get o6 g5) p6 (by simp [w.obj.1]) rfl s6 (by decide) (by decide) (by decide);have O3:aA h h3:=(o1.trans o2).trans o3;have hd:h.next<=h1.next:=by omega
 have O4:aA h h4:=aA.bx O3 k4 hd;have O5:aA h h5:=aA.bx O4 k5 hd;have O7:aA h h7:=aA.bx (O5.trans o6) k7 hd;have g7:h7.get h1.next=some (aY (dx r)):=by rw [g7];simp [dx]
 refine ⟨some ⟨h1.next,0,none⟩,34,h7,aD is67 hG rfl ((t67_eq _ _ _).trans ?_),?_,O7⟩
 ·unfold t67;have e4:appendA 1 1 (.slice (some ⟨h1.next,0,none⟩) 0 34) (.slice (some ⟨h2.next,0,none⟩) 1 1) h3=some (.slice (some ⟨h1.next,0,none⟩) 1 34,h4):=e4;have e5:appendA 1 1 (.slice (some ⟨h1.next,0,none⟩) 1 34) (.slice (some ⟨h.next,1,none⟩) 32 32) h4=some (.slice (some ⟨h1.next,0,none⟩) 33 34,h5):=e5;have e7:appendA 1 1 (.slice (some ⟨h1.next,0,none⟩) 33 34) (.slice (some ⟨h5.next,0,none⟩) 1 1) h6=some (.slice (some ⟨h1.next,0,none⟩) 34 34,h7):=e7;simp -implicitDefEqProofs only [b1, m4, A2.l0, b3, e4, ha, e5, A5.l33, cv1, b6, e7, ae, af, ay, DG]
 ·have:=cG (off:=0) (n:=34) (s:=none) g7 (by rw [xZ w];decide) (kL w);rw [this,EJ,D1 (by rw [xZ w];decide)]
set_option maxRecDepth 100000 in
theorem r27 {h:ad} (hG:4<=h.n0) {r:ao} (w:r.Wf):(de r=true -> ∃ a c h',CW 63 [.agg (bL r).toArray] h=some (.tuple #[.slice a 34 c,.int .i64 0],h')/\av a 34 h'=some (dx r)/\aA h h') /\
  (de r=false -> ∃ h',CW 63 [.agg (bL r).toArray] h=some (.tuple #[.slice none 0 0,.int .i64 2],h')/\aA h h'):=by
 obtain ⟨h1,b1,o1,g1,n1⟩:=cJ h w;have L1:=bc g1 (aM w).1 (aM w).2.1;obtain ⟨h2,e2,o2⟩:=r42 (h:=h1) (by rw [o1.n0];exact hG) w;have O2:=o1.trans o2;have L2:=bc (o2.get g1) (aM w).1 (aM w).2.1;refine ⟨fun v => ?_,fun v => ?_⟩
 ·rw [v] at e2;obtain ⟨a,c,h3,e3,s3,o3⟩:=r67 (h:=h2) (by rw [O2.n0];exact hG) w;refine ⟨a,c,h3,aD is27 hG rfl ((t27_eq _ _ _).trans ?_),s3,O2.trans o3⟩;unfold t27;simp -implicitDefEqProofs only [b1,L1,e2,L2,e3,aT,DP,ae,af]
 ·rw [v] at e2;refine ⟨h2,aD is27 hG rfl ((t27_eq _ _ _).trans ?_),O2⟩;unfold t27;simp -implicitDefEqProofs only [b1,L1,e2,aT,DN,ae,af]
def fH (a b:Int):Int:=if a<b then -1 else if b<a then 1 else 0
def orL:List Int->Int
 | []=>0
 |x::l=>if x=0 then orL l else x
theorem is137:bP prog 99 f99:=by constructor<;>kernel_rfl
theorem is138:bP prog 100 f100:=by constructor<;>kernel_rfl
theorem is115:bP prog 81 f81:=by constructor<;>kernel_rfl
theorem is116:bP prog 82 f82:=by constructor<;>kernel_rfl
theorem is114:bP prog 80 f80:=by constructor<;>kernel_rfl
theorem is63:bP prog 48 f48:=by constructor<;>kernel_rfl
theorem is62:bP prog 47 f47:=by constructor<;>kernel_rfl
theorem r137 {h:ad} (hG:4<=h.n0) (a:Int):CW 99 [.int .u64 a] h=some (.bool false,h):=by refine aD is137 hG rfl ((t137_eq _ _ _).trans ?_);unfold t137;simp -implicitDefEqProofs only [aZ,HJ,ae,af]
theorem r138 {h:ad} (hG:4<=h.n0) (a:Int):CW 100 [.int .i64 a] h=some (.bool false,h):=by refine aD is138 hG rfl ((t138_eq _ _ _).trans ?_);unfold t138;simp -implicitDefEqProofs only [aZ,HJ,ae,af]
theorem r115 {h:ad} (hG:4<=h.n0) (a b:Int):CW 81 [.int .u64 a,.int .u64 b] h=some (.int .i64 (fH a b),h):=by
 refine aD is115 hG rfl ((t115_eq _ _ _ _).trans ?_);unfold t115 fH;simp -implicitDefEqProofs only [r137 hG,bG,bD,ae,af];by_cases h1:a<b
 ·simp -implicitDefEqProofs only [DA h1, DL h1]
 ·simp -implicitDefEqProofs only [DB h1, DM h1];by_cases h2:b<a
  ·have h2':a>b:=h2;simp -implicitDefEqProofs only [DA h2', DL h2]
  ·have h2' : ¬a>b:=h2;simp -implicitDefEqProofs only [DB h2', DM h2]
theorem r116 {h:ad} (hG:4<=h.n0) (a b:Int):CW 82 [.int .i64 a,.int .i64 b] h=some (.int .i64 (fH a b),h):=by
 refine aD is116 hG rfl ((t116_eq _ _ _ _).trans ?_);unfold t116 fH;simp -implicitDefEqProofs only [r138 hG,bG,bD,ae,af];by_cases h1:a<b
 ·simp -implicitDefEqProofs only [DA h1, DL h1]
 ·simp -implicitDefEqProofs only [DB h1, DM h1];by_cases h2:b<a
  ·have h2':a>b:=h2;simp -implicitDefEqProofs only [DA h2', DL h2]
  ·have h2' : ¬a>b:=h2;simp -implicitDefEqProofs only [DB h2', DM h2]
theorem results114:f80.results.toList = [.tmp 2]:=by kernel_rfl
theorem r114 {h:ad} (hG:4<=h.n0) {b:Nat} {vs:List Int} (hl:vs.length=5) (g:h.get b=some (vs.map (.int .i64))):CW 80 [.slice (some ⟨b,0,none⟩) 5 5] h=some (.int .i64 (orL vs),h):=by
 have hll:lenL (.slice (some ⟨b,0,none⟩) 5 5)=some (ak 5):=rfl;refine aD is114 hG rfl ((t114_eq _ _ _).trans ?_);unfold t114;simp -implicitDefEqProofs only [hll,ae,af];refine bq (n:=18) (fin:=fun ex y g=>g=h/\((ex = .ret/\y 2 = .int .i64 (orL vs))\/(ex = .exit 0/\y 3 = .int .i64 0/\orL vs=0))) (Q:=fun o:aS=>o=some (Value.int .i64 (orL vs),h))
  (bk (uv CW) (Inv:=fun k y g => ∃ i,i+k=5/\y 3 = .int .i64 0/\y 6 = .slice (some ⟨b,0,none⟩) 5 5/\y 7=ak 5/\y 8=ak i/\g=h/\orL vs=orL (vs.drop i)) ?_ 5 (by have:aB=18446744073709551616:=rfl;omega) ⟨0,DG _,rfl,rfl,rfl,rfl,rfl,rfl⟩) ?_
 ·rintro k y g' ⟨i,hik,y3,y6,y7,y8,rfl,ho⟩;unfold km;simp -implicitDefEqProofs only [y3,y6,y7,y8,eK];by_cases hi:i<5
  ·have hx:idxS 1 (.slice (some ⟨b,0,none⟩) 5 5) (ak i)=some (ptr b i):=by unfold idxS;simp only [];rw [DL (by omega),Int.toNat_natCast,FT,DG]
   have hv:vs[i]? = some vs[i]:=DC (by omega);have hd:ld1 (ptr b i) g'=some (.int .i64 vs[i],g'):=aU g (by rw [EF,hv];rfl) rfl;have hdr:vs.drop i=vs[i]::vs.drop (i+1):=EX (by omega);by_cases hz:vs[i]=0
   ·have hb:(vs[i] != 0)=false:=by rw [hz];rfl
    simp -implicitDefEqProofs only [DA hi, hx, hd, aZ, hb, dh (show i+1<=9223372036854775807 by omega), ae, af];refine cR.next (k-1) (by omega) ⟨i+1,by omega,y3,y6,y7,rfl,rfl,?_⟩;rw [ho,hdr,orL,DL hz]
   ·have hb:(vs[i] != 0)=true:=by simpa using hz
    simp -implicitDefEqProofs only [DA hi, hx, hd, aZ, hb, ae, af];refine cR.ret ⟨rfl,.inl ⟨rfl,?_⟩⟩;rw [ho,hdr,orL,DM hz];rfl
  ·simp -implicitDefEqProofs only [DB hi,ae,af];refine cR.out 0 ⟨rfl,.inr ⟨rfl,y3,?_⟩⟩;rw [ho,FR (by omega)];rfl
 ·rintro ex z g' ⟨rfl,⟨rfl,z2⟩|⟨rfl,z3,hz⟩⟩
  ·rw [fq,cE,gu results114 (by decide),z2]
  ·simp -implicitDefEqProofs only [aV,b114_4,DY,Ai];unfold rA;rw [z3,hz];rfl
theorem fill_int {A C:List Value} {o:Nat} {x:Value} {k:IntKind} {n:Int} {cI:List (Nat×Nat×Value)} (hA:A.length=o):fillL (A++([x]++C)) ((o,1,.int k n)::cI)=fillL (A++([.int k n]++C)) cI:=by
 have hc:(Value.int k n).cells = #[.int k n]:=rfl;simp only [fillL,hc];rw [DL (by
  have:o+1<=(A++([x]++C)).length:=by rw [DH,DH,hA];simp
  simp only [DA this];rfl),ku (B := [x]) (B' := [.int k n]) (C:=C) hA rfl rfl]
theorem chkF (r:aS) (v:Value):bF false r v=true:=rfl
theorem Bq : ∀ {l:List Value},(∀ v∈l,∃ k:Kd,k.has v)->Aa l l=true
 | [],_=>rfl
 |v::l,h=>by
  simp only [Aa,DJ];refine ⟨?_,Bq fun w hw=>h w (EM _ hw)⟩;obtain ⟨k,hk⟩:=h v ER;cases k with
  |u8=>obtain ⟨n,rfl,_⟩:=hk;simp [sN]
  |i k=>obtain ⟨n,rfl,_⟩:=hk;simp [sN]
  |b=>obtain ⟨t,rfl⟩:=hk;simp [sN]
theorem cQ.kinds {ks:List Kd} {cs:List Value} (h:cQ ks cs) : ∀ v∈cs,∃ k:Kd,k.has v:=by intro v hv;obtain ⟨j,hj⟩:=H7.1 hv;have hlt:=(EP.1 hj).1;rw [h.1] at hlt;obtain ⟨w,hw,hk⟩:=h.2 j _ (DC hlt);rw [hj] at hw;cases hw;exact ⟨_,hk⟩
theorem qC (l:List Value) (g:ad) (h : ∀ v∈l,∃ k:Kd,k.has v):bF true (some (.agg l.toArray,g)) (.agg l.toArray)=true:=by show (!true||sN (.agg ⟨l⟩) (.agg ⟨l⟩))=true;simp only [DP,EI,sN];exact Bq h
def oe (a b:ao):Int:=orL [fH a.gO b.gO,fH a.oG b.oG,(if a.held=b.held then 0 else if a.held then 1 else -1),fH a.k b.k,fH a.n b.n]
theorem bsl5 (h:ad) (a b c d e:Int):cg 1 (.int .i64 0) 5 [(0,.int .i64 a),(1,.int .i64 b),(2,.int .i64 c),(3,.int .i64 d),(4,.int .i64 e)] h=some (.slice (some ⟨h.next,0,none⟩) 5 5,h.alloc ([a,b,c,d,e].map (.int .i64))):=rfl
theorem tY (a b:Bool):aC prog .neq 4 (.bool a) (.bool b)=some (.bool (a != b)):=by cases a<;>cases b<;>kernel_rfl
set_option maxRecDepth 100000 in
theorem r63 {h:ad} (hG:4<=h.n0) {a b:ao} (wa:a.Wf) (wb:b.Wf) : ∃ h',CW 48 [.agg (bL a).toArray,.agg (bL b).toArray] h=some (.int .i64 (oe a b),h')/\aA h h':=by
 obtain ⟨h1,b1,o1,g1,n1⟩:=cJ h wa;obtain ⟨h2,b2,o2,g2,n2⟩:=cJ h1 wb;have A:=js wa (o2.get g1);have B:=js wb g2;have G2:4<=h2.n0:=by rw [o2.n0,o1.n0];exact hG
 have G3 : ∀ k:iM,4<=(h2.alloc k).n0:=fun k=>G2;have e14:=fun c:Int=>r114 (h:=h2.alloc ([fH a.gO b.gO,fH a.oG b.oG,c,fH a.k b.k,fH a.n b.n].map (.int .i64))) (G3 _) (b:=h2.next) (vs := [fH a.gO b.gO,fH a.oG b.oG,c,fH a.k b.k,fH a.n b.n]) rfl (by rw [ad.aF,DL rfl]);have o3:=fun c:Int=>(show aA h2 (h2.alloc ([fH a.gO b.gO,fH a.oG b.oG,c,fH a.k b.k,fH a.n b.n].map (.int .i64))) from az.alloc _ _ _)
 unfold oe;cases qa:a.held<;>cases qb:b.held
 ·refine ⟨_,aD is63 hG rfl ((B6 _ _ _ _).trans ?_),(o1.trans o2).trans (o3 0)⟩;unfold t63;simp -implicitDefEqProofs only [b1,b2,ay,DG,A.l36,B.l36,A.l34,B.l34,A.l35,B.l35,A.l37,B.l37,A.l38,B.l38,qa,qb,tY,HJ,r115 G2,r116 G2,bsl5,e14,ze,FD,DV,ae,af,DY]
 ·refine ⟨_,aD is63 hG rfl ((B6 _ _ _ _).trans ?_),(o1.trans o2).trans (o3 (-1))⟩;unfold t63;simp -implicitDefEqProofs only [b1, b2, ay, DG, A.l36, B.l36, A.l34, B.l34, A.l35, B.l35, A.l37, B.l37, A.l38, B.l38, qa, qb, tY, show (false != true)=true from rfl, r115 G2, r116 G2, bsl5, e14, ze, FD, DV, ae, af];rfl
 ·refine ⟨_,aD is63 hG rfl ((B6 _ _ _ _).trans ?_),(o1.trans o2).trans (o3 1)⟩;unfold t63;simp -implicitDefEqProofs only [b1,b2,ay,DG,A.l36,B.l36,A.l34,B.l34,A.l35,B.l35,A.l37,B.l37,A.l38,B.l38,qa,qb,tY,show (true != false)=true from rfl,r115 G2,r116 G2,bsl5,e14,ze,FD,DV,ae,af,DY];rfl
 ·refine ⟨_,aD is63 hG rfl ((B6 _ _ _ _).trans ?_),(o1.trans o2).trans (o3 0)⟩;unfold t63;simp -implicitDefEqProofs only [b1,b2,ay,DG,A.l36,B.l36,A.l34,B.l34,A.l35,B.l35,A.l37,B.l37,A.l38,B.l38,qa,qb,tY,HJ,r115 G2,r116 G2,bsl5,e14,ze,FD,DV,ae,af,DY]
def xm (r:ao):List Value := .int .u8 (r.kind:Int)::(aY r.obj ++ [.int .i64 r.aN])
def atK:List Kd := .u8::(List.replicate 32 .u8 ++ [.i .i64])
theorem kh {r:ao} (h:r.Wf):cQ atK (xm r):=(cQ.one (k := .u8) ⟨_,rfl,h.kind⟩).CZ ((cH h.obj).CZ (cQ.one (k := .i .i64) ⟨_,rfl,si.2 h.aN⟩))
abbrev zat:List Value:=BD
theorem bld_at {r:ao} (w:r.Wf):ei zat [(0,1,.int .u8 (r.kind:Int)),(1,32,.agg (aY r.obj).toArray),(33,1,.int .i64 r.aN)]=some (.agg (xm r).toArray):=by
 have e:fillL zat [(0,1,.int .u8 (r.kind:Int)),(1,32,.agg (aY r.obj).toArray),(33,1,.int .i64 r.aN)]=fillL ([.int .u8 (r.kind:Int)]++(aY z32 ++ [.int .i64 0])) [(1,32,.agg (aY r.obj).toArray),(33,1,.int .i64 r.aN)]:=rfl;unfold ei;rw [e,jr (A := [.int .u8 (r.kind:Int)]) (B:=aY z32) (o:=1) (n:=32) rfl rfl rfl (by rw [DS];exact w.obj.1)];have e2:fillL ([.int .u8 (r.kind:Int)]++(aY r.obj ++ [.int .i64 0])) [(33,1,.int .i64 r.aN)]=some (xm r):=by
  have e3:([.int .u8 (r.kind:Int)]++(aY r.obj ++ [Value.int .i64 0]))=(([.int .u8 (r.kind:Int)]++aY r.obj)++([Value.int .i64 0] ++ [])):=by simp
  rw [e3,fill_int (by simp [w.obj.1])];show some _=some _;simp [xm]
 rw [e2];rfl
theorem CT {r:ao} (w:r.Wf):(xm r).length=34:=(kh w).1
theorem agg101:rH prog 94=some true:=by kernel_rfl
theorem siz101:cK prog 94=some 34:=by kernel_rfl
theorem results62:f47.results.toList = [.cell 2 94]:=by kernel_rfl
theorem cX {rs:List ResultVar} {n k t z:Nat} (hr:rs = [.cell k t]) (h1:rH prog t=some true) (h2:cK prog t=some z) (hk:k<n) (x:Nat->Value) {h:ad} {v:Value} (e:cx z (x k) h=some (v,h)):resultsA prog rs (aL n x) h=some (v,h):=by subst hr;simp only [resultsA,fj,mT hk,ld_agg h1 h2,e];rfl
set_option maxRecDepth 100000 in
theorem r62 {h:ad} (hG:4<=h.n0) {r:ao} (w:r.Wf) : ∃ h',CW 47 [.agg (bL r).toArray] h=some (.agg (xm r).toArray,h')/\aA h h':=by obtain ⟨h1,b1,o1,g1,n1⟩:=cJ h w;obtain ⟨h2,z2,o2,g2,n2⟩:=fresh zat h1;have A:=js w (o2.get g1);have ta:=kh w;obtain ⟨h3,e3,k3,g3,_,_⟩:=aX (n:=34) (k':=xm r) g2 (by rw [o2.n0];exact h1.n0_le_next) rfl (CT w) ta.all.2.1;have o3:aA h1 h3:=aA.bx o2 k3 (DF _);have l3:=bc g3 (CT w) ta.all.1;refine ⟨h3,aD is62 hG rfl ((t62_eq _ _ _).trans ?_),o1.trans o3⟩;unfold t62;simp -implicitDefEqProofs only [b1,z2,ay,DG,A.l0,A.l1,A.l33,bld_at w,e3,ae,af];exact cX results62 agg101 siz101 (show 2<10 by decide) _ l3
theorem at_at {x y:Value} {o:List Value} (ho:o.length=32):(x::(o ++ [y])).toArray[33]? = some y:=by rw [G1,show 33=32+1 from rfl,List.getElem?_cons_succ,EG (by omega),ho];rfl
def kU (a b:ao):Bool:=decide (a.kind=b.kind)&&(decide (a.obj=b.obj)&&decide (a.aN=b.aN))
def yj (a b:ao):Bool:=de a&&(de b&&(kU a b&&decide (oe a b>0)))
section
theorem lU:rH prog 36=some true:=by kernel_rfl
theorem bm {l:List Nat} (h:ic l):(aY l).length=32/\Abs.noHoles (aY l)=true/\aJ (aY l)=true:=by have t:=cH h;exact ⟨t.1,t.all.1,t.all.2.1⟩
theorem eqD35 {a b:List Nat} (wa:ic a) (wb:ic b):aC prog .eql 36 (.agg (aY a).toArray) (.agg (aY b).toArray)=some (.bool (decide (a=b))):=by
 obtain ⟨r,hr,hrun⟩:=tD (d:=9998) (cH wa) (cH wb);have hr':r=decide (a=b):=by
  by_cases e:a=b
  ·rw [DA e,hr.2 (by rw [e])]
  ·rw [DB e];cases r with
   |false=>rfl
   |true=>exact absurd (tv (hr.1 rfl)) e
 rw [<-hr'];exact (xg (by kernel_rfl) (dy (cH wa).all.2.2) (dy (cH wb).all.2.2) hrun).1
theorem fs_size:Nat.ble 120 prog.funcs.size=true:=by kernel_rfl
theorem XX_yid (L:Nat) (args:List Value) (h:ad):XX (Bs prog L) args h=none:=by have e:=EV fs_size;show callL XL (prog.funcs.size+L) args h=none;generalize prog.funcs.size=n at e;unfold callL;rw [DM (show ¬n+L=(5:Nat) by omega)];unfold callL;rw [DM (show ¬n+L=(85:Nat) by omega)];rfl
theorem CW_yield {L:Nat} {args:List Value} {h:ad} {r:Value×ad} (hG:4<=h.n0) (e:roundA prog CW L args h=some r):CW (Bs prog L) args h=some r:=
 CC_round (by rw [kJ];exact hG) (XX_yid L args h) e
def jK (h:ad) (v:Value) (L:List ao):Prop:=
 (∃ a c,v = .slice a L.length c)/\(∀ r∈L,r.Wf) /\ ∀ j,j<L.length -> ∃ b o,idxS 39 v (ak j)=some (ptr b o)/\b<h.next /\ ∀ g:ad,g.get b=h.get b->cx 39 (ptr b o) g=some (.agg (bL (L.getD j ao.z)).toArray,g)
def gR (v:Value):Prop := ∃ a n c,v = .slice a n c/\n<=c/\(0<n -> ∀ b o s,a=some ⟨b,o,some s⟩->s=39)
theorem jK.mono {h h':ad} {v:Value} {L:List ao} (x:jK h v L) (o:aA h h'):jK h' v L:=by refine ⟨x.1,x.2.1,fun j hj => ?_⟩;obtain ⟨b,q,h1,h2,h3⟩:=x.2.2 j hj;have hb:h'.get b=h.get b:=az.get o b h2 (fun h=>h);exact ⟨b,q,h1,ED h2 o.next,fun g e=>h3 g (e.trans hb)⟩
theorem jK.len {h:ad} {v:Value} {L:List ao} (x:jK h v L):lenL v=some (ak L.length):=by obtain ⟨⟨a,c,rfl⟩,_,_⟩:=x;rfl
theorem jK.at {h:ad} {v:Value} {L:List ao} (x:jK h v L) {j:Nat} (hj:j<L.length) : ∃ b o,idxS 39 v (ak j)=some (ptr b o)/\(L.getD j ao.z).Wf/\L.getD j ao.z∈L /\ ∀ g:ad,aA h g->cx 39 (ptr b o) g=some (.agg (bL (L.getD j ao.z)).toArray,g):=by
 obtain ⟨b,q,h1,h2,h3⟩:=x.2.2 j hj;have hm:L.getD j ao.z∈L:=by rw [DK,DC hj];exact EA hj
 exact ⟨b,q,h1,x.2.1 _ hm,hm,fun g og=>h3 g (az.get og b h2 (fun h=>h))⟩
theorem bnd_hi {n c k:Nat} (h:k<=n) (hc:n<=c):boundsA n c none (some (ak k)) none=some (0,k,c):=by
 have a1:boundA c c none=some c:=rfl;have a2:boundA n c (some (ak k))=some k:=by unfold boundA ak;simp only;rw [DL (by omega)];rfl
 unfold boundsA;rw [a1];simp only [a2];rfl
theorem bnd_lo {n c k:Nat} (h:k<=n) (_:n<=c):boundsA n c (some (ak k)) none none=some (k,n,c):=by
 have a1:boundA c c none=some c:=rfl;have a2:boundA n c none=some n:=rfl;have a3:boundA 0 n (some (ak k))=some k:=by unfold boundA ak;simp only;rw [DL (by omega)];rfl
 unfold boundsA;rw [a1];simp only [a2,a3]
theorem jK.take {h:ad} {v:Value} {L:List ao} (x:jK h v L) (g:gR v) {k:Nat} (hk:k<L.length) : ∃ v',iw 39 v none (some (ak k)) none=some v'/\jK h v' (L.take k)/\gR v':=by
 obtain ⟨⟨a,c,rfl⟩,hd,hp⟩:=x;obtain ⟨a',n',c',e,hle,hs⟩:=g;cases e;obtain ⟨b0,o0,e0,_⟩:=hp 0 (by omega);cases a with
 |none=>cases e0
 |some A=>
  obtain ⟨b,off,sp⟩:=A;have hb:=bnd_hi (c:=c) (FC hk) hle;have lt:(L.take k).length=k:=by rw [DW];omega
  refine ⟨.slice (some ⟨b,off,sp⟩) k c,?_,⟨⟨_,_,by rw [lt]⟩,fun q hq=>hd q (EZ hq),fun j hj => ?_⟩,⟨_,_,_,rfl,by omega,fun _=>hs (by omega)⟩⟩
  ·unfold iw sliceSl;cases sp with
   |none=>
    simp only [hb];rw [DM (by omega),GK,Nat.add_zero,Nat.sub_zero,Nat.sub_zero]
   |some s=>
    have:s=39:=hs (by omega) b off s rfl;subst this;simp only [hb];rw [DL ⟨True.intro,by decide⟩,GK,Nat.add_zero,Nat.sub_zero,Nat.sub_zero]
  ·rw [lt] at hj;obtain ⟨b1,o1,e1,e2,e3⟩:=hp j (by omega);have e4:(L.take k).getD j ao.z=L.getD j ao.z:=by rw [DK,DK,FA,DL hj]
   rw [e4];refine ⟨b1,o1,?_,e2,e3⟩;rw [<-e1];unfold idxS ak;simp only;rw [DL (by omega),DL (by omega)]
theorem jK.drop {h:ad} {v:Value} {L:List ao} (x:jK h v L) (g:gR v) {k:Nat} (hk:k<L.length) : ∃ v',iw 39 v (some (ak k)) none none=some v'/\jK h v' (L.drop k)/\gR v':=by
 obtain ⟨⟨a,c,rfl⟩,hd,hp⟩:=x;obtain ⟨a',n',c',e,hle,hs⟩:=g;cases e;obtain ⟨b0,o0,e0,_⟩:=hp 0 (by omega);cases a with
 |none=>cases e0
 |some A=>
  obtain ⟨b,off,sp⟩:=A;have hb:=bnd_lo (c:=c) (FC hk) hle;have lt:(L.drop k).length=L.length-k:=D8;refine ⟨.slice (some ⟨b,off+k*39,sp⟩) (L.length-k) (c-k),?_,⟨⟨_,_,by rw [lt]⟩,fun q hq=>hd q (FV hq),fun j hj => ?_⟩,⟨_,_,_,rfl,by omega,fun _ b' o' s' e=>by cases e;exact hs (by omega) b off s' rfl⟩⟩
  ·unfold iw sliceSl;cases sp with
   |none=>
    simp only [hb];rw [DM (by omega)]
   |some s=>
    have:s=39:=hs (by omega) b off s rfl;subst this;simp only [hb];rw [DL ⟨True.intro,by decide⟩]
  ·rw [lt] at hj;obtain ⟨b1,o1,e1,e2,e3⟩:=hp (k+j) (by omega);have e4:(L.drop k).getD j ao.z=L.getD (k+j) ao.z:=by rw [DK,DK,FB]
   rw [e4];refine ⟨b1,o1,?_,e2,e3⟩;rw [<-e1];unfold idxS ak;simp only;rw [DL (by omega),DL (by omega),Int.toNat_natCast,Int.toNat_natCast,GY,F4]
def bj (P:List ao):List Value:=P.flatMap bL
theorem cf : ∀ {P:List ao},(∀ p∈P,ao.Wf p)->(bj P).length=P.length*39
 | [],_=>rfl
 |p::P,h=>by have ih:=cf (P:=P) fun q hq=>h q (EM _ hq);have hp:=(aM (h p ER)).1;unfold bj at ih |-;rw [E4,DH,ih,hp,List.length_cons];omega
theorem jW : ∀ {P:List ao},(∀ p∈P,ao.Wf p) -> ∀ {j:Nat},j<P.length->((bj P).drop (j*39)).take 39=bL (P.getD j ao.z)
 | [],_,j,hj=>absurd hj (E0 j)
 |p::P,h,j,hj=>by
  have hp:=(aM (h p ER)).1;cases j with
  |zero=>
   unfold bj;rw [E4,GK,EJ,<-hp,IW];rfl
  |succ j=>
   have ih:=jW (P:=P) (fun q hq=>h q (EM _ hq)) (j:=j) (by rw [List.length_cons] at hj;omega);unfold bj at ih |-;rw [E4,show (j+1)*39=39+j*39 by omega,<-List.drop_drop,GF hp,List.getD_cons_succ,ih]
theorem kR : ∀ {P:List ao},(∀ p∈P,ao.Wf p)->Abs.noHoles (bj P)=true/\aJ (bj P)=true
 | [],_=>⟨rfl,rfl⟩
 |p::P,h=>by have ih:=kR (P:=P) fun q hq=>h q (EM _ hq);have hp:=aM (h p ER);unfold bj at ih |-;unfold Abs.noHoles aJ at *;rw [E4,E6,E6,ih.1,ih.2,hp.2.1,hp.2.2];exact ⟨rfl,rfl⟩
def eD (h:ad) (v:Value) (P:List ao):Prop:=(∀ p∈P,ao.Wf p)/\SlN h gX v P.length (bj P)
theorem eD.rsl {h:ad} {v:Value} {P:List ao} (x:eD h v P):jK h v P:=by
 obtain ⟨hd,a,c,rfl,_,_,h0⟩:=x;refine ⟨⟨_,_,rfl⟩,hd,fun j hj => ?_⟩;obtain ⟨b,off,s,k,rfl,hk,hlen,hcs⟩:=h0 (by omega);rw [show gX.length=39 from rfl] at hlen hcs;have hm:=BX (z:=39) hj;have e:(k.drop (off+j*39)).take 39=bL (P.getD j ao.z):=by rw [<-jW hd hj,<-hcs];rw [HY,HI,E8,HB (by omega)]
 refine ⟨b,off+j*39,?_,h.aO hk,fun g hg => ?_⟩
 ·unfold idxS ak;simp only;rw [DL (by omega),Int.toNat_natCast]
 ·have dp:ao.Wf (P.getD j ao.z):=hd _ (by rw [DK,DC hj];exact EA hj)
  have:=nT (o:=off+j*39) (n:=39) (hg.trans hk) (by omega) (by rw [e];exact (aM dp).2.1);rw [e] at this;exact this
theorem eD.mono {h h':ad} {v:Value} {P:List ao} (x:eD h v P) (o:aA h h'):eD h' v P:=by obtain ⟨hd,a,c,rfl,hn,ht,h0⟩:=x;refine ⟨hd,a,c,rfl,hn,ht,fun hp => ?_⟩;obtain ⟨b,off,s,k,rfl,hk,hlen,hcs⟩:=h0 hp;exact ⟨b,off,s,k,rfl,aA.get o hk,hlen,hcs⟩
theorem app_recs {g:ad} {v:Value} {P:List ao} (x:eD g v P) (hl:P.length<=1000000) :
  ∃ v' g',appendA 39 88 (.slice (some ⟨g.next,0,none⟩) 0 0) v (g.alloc [])=some (v',g')/\aA g g'/\jK g' v' P/\gR v':=by
 have o1:aA g (g.alloc []):=az.alloc _ _ _;obtain ⟨hd,a,c,rfl,hn,ht,h0⟩:=x;by_cases hz:P.length=0
 ·have hP:P = []:=DU.1 hz;subst hP;refine ⟨.slice (some ⟨g.next,0,none⟩) 0 0,g.alloc [],?_,o1,⟨⟨_,_,rfl⟩,hd,fun j hj=>absurd hj (E0 j)⟩,⟨_,_,_,rfl,DF _,fun h=>absurd h (F9 0)⟩⟩;cases a with
  |none=>rfl
  |some a=>obtain ⟨b,off,s⟩:=a;rfl
 ·obtain ⟨b,off,s,k,rfl,hk,hlen,hcs⟩:=h0 (by omega);rw [show gX.length=39 from rfl] at hlen hcs;have hl':=cf hd;have hk1:(g.alloc []).get b=some k:=aA.get o1 hk;have hf:firstA 39 P.length (.slice (some ⟨b,off,s⟩) P.length c) (g.alloc [])=some (bj P):=by unfold firstA;simp only;rw [DM (by omega),hk1];simp only;rw [hcs,DL ⟨hlen,(kR hd).1⟩]
  have o2:aA (g.alloc []) ((g.alloc []).alloc (bj P)):=az.alloc _ _ _;have D2:eD ((g.alloc []).alloc (bj P)) (.slice (some ⟨(g.alloc []).next,0,some 39⟩) P.length P.length) P:=by
   refine ⟨hd,_,_,rfl,fun h=>(by cases h),ht,fun _=>⟨_,_,_,bj P,rfl,by rw [ad.aF,DL rfl],?_,?_⟩⟩
   ·rw [show gX.length=39 from rfl,hl',DG];exact DF _
   ·rw [show gX.length=39 from rfl,EJ,<-hl',E9]
  refine ⟨.slice (some ⟨(g.alloc []).next,0,some 39⟩) P.length P.length,(g.alloc []).alloc (bj P),?_,o1.trans o2,D2.rsl,⟨_,_,_,rfl,DF _,fun _ b o s e=>by cases e;rfl⟩⟩;have hf0:firstA 39 0 (.slice (some ⟨g.next,0,none⟩) 0 0) (g.alloc [])=some []:=rfl;unfold appendA;simp only [ie,hf,hf0];rw [DM (by simp only [(kR hd).2,hl',DP,EI,FH,FK,FM,DR,DG];omega),DM (by omega)]
  simp only [List.nil_append,DG,List.length_nil,GK];rw [DM (by simp)]
theorem is26:bP prog 8 f8:=by constructor<;>kernel_rfl
theorem is60:bP prog 28 f28:=by constructor<;>kernel_rfl
theorem is113:bP prog 62 f62:=by constructor<;>kernel_rfl
theorem results113:f62.results.toList = [.tmp 4]:=by kernel_rfl
set_option maxRecDepth 100000 in
theorem r113 {h:ad} (hG:4<=h.n0) {v fv:Value} {L:List ao} (hv:jK h v L) (hl:L.length<=1000000) (p:ao->Bool) (hp : ∀ r∈L,r.Wf -> ∀ g,aA h g -> ∃ g',callA prog CW fv [.agg (bL r).toArray] g=some (.bool (p r),g')/\aA g g') :
  ∃ (k:Int) (h':ad),CW 62 [v,fv] h=some (.int .i64 k,h')/\aA h h'/\decide (k>=0)=L.any p:=by
 have hll:=hv.len;have key : ∃ o:aS,t113 CW v fv h=o /\ ∃ (k:Int) (h':ad),o=some (.int .i64 k,h')/\aA h h'/\decide (k>=0)=L.any p:=by
  refine ⟨_,rfl,?_⟩;unfold t113;simp -implicitDefEqProofs only [hll,ae,af];refine bq (n:=19) (fin:=fun ex y g=>aA h g/\((ex = .exit 0/\L.any p=false)\/(ex = .ret/\L.any p=true /\ ∃ i:Nat,y 4=ak i))) (Q:=fun o:aS => ∃ (k:Int) (h':ad),o=some (.int .i64 k,h')/\aA h h'/\decide (k>=0)=L.any p)
   (bk (mM CW) (Inv:=fun k y g => ∃ i,i+k=L.length/\y 0=v/\y 1=fv/\y 7=ak L.length/\y 8=ak i/\aA h g/\L.any p=(L.drop i).any p) ?_ L.length (by have:aB=18446744073709551616:=rfl;omega) ⟨0,by omega,rfl,rfl,rfl,rfl,az.refl _ _,by rw [EJ]⟩) ?_
  ·rintro k y g ⟨i,hik,y0,y1,y7,y8,O,ha⟩;unfold ji;simp -implicitDefEqProofs only [y7,y8,eK,ae,af];by_cases hi:i<L.length
   ·obtain ⟨b,o,ix,wr,mr,lp⟩:=hv.at hi;have hd:L.drop i=L.getD i ao.z::L.drop (i+1):=by rw [EX hi,DK,DC hi];rfl
    rw [hd,List.any_cons] at ha;generalize L.getD i ao.z=r at *;have L1:=lp g O;obtain ⟨g',e',o'⟩:=hp r mr wr g O;cases hpr:p r with
    |true=>
     rw [hpr] at e';rw [hpr,E3] at ha;simp -implicitDefEqProofs only [DA hi,y0,y1,ix,L1,e',ae,af];exact cR.ret ⟨O.trans o',.inr ⟨rfl,ha,i,rfl⟩⟩
    |false=>
     rw [hpr] at e';rw [hpr,EI] at ha;have a8:aC prog .add 3 (ak i) (.int .i64 1)=some (ak (i+1)):=dh (by omega);simp -implicitDefEqProofs only [DA hi, y0, y1, ix, L1, e', a8, ae, af];exact cR.next (k-1) (by omega) ⟨i+1,by omega,y0,y1,y7,rfl,O.trans o',ha⟩
   ·have hiE:i=L.length:=by omega
    rw [hiE,I7] at ha;simp -implicitDefEqProofs only [DB hi];exact cR.out 0 ⟨O,.inl ⟨rfl,ha⟩⟩
  ·rintro ex z g ⟨O,⟨rfl,ha⟩|⟨rfl,ha,i,z4⟩⟩
   ·simp -implicitDefEqProofs only [aV,b113_3,DY,qX];unfold oh;exact ⟨-1,g,rfl,O,by rw [ha];rfl⟩
   ·rw [fq,cE,gu results113 (by decide),z4];refine ⟨i,g,rfl,O,?_⟩;rw [ha,DA (by omega)]
 obtain ⟨o9,e,k,h',e',q⟩:=key;exact ⟨k,h',aD is113 hG rfl ((t113_eq _ _ _ _).trans (e.trans e')),q⟩
theorem r60 {h:ad} (hG:4<=h.n0) {v fv:Value} {L:List ao} (hv:jK h v L) (hl:L.length<=1000000) (p:ao->Bool) (hp : ∀ r∈L,r.Wf -> ∀ g,aA h g -> ∃ g',callA prog CW fv [.agg (bL r).toArray] g=some (.bool (p r),g')/\aA g g') :
  ∃ h',CW 28 [v,fv] h=some (.bool (L.any p),h')/\aA h h':=by
 obtain ⟨k,h',e,o,q⟩:=r113 hG hv hl p hp;have ge:aC prog .geq 3 (.int .i64 k) (.int .i64 0)=some (.bool (L.any p)):=by rw [bH,q]
 refine ⟨h',aD is60 hG rfl ((t60_eq _ _ _ _).trans ?_),o⟩;unfold t60;simp -implicitDefEqProofs only [e,ge,ae,af]
theorem fs_124:Nat.ble 125 prog.funcs.size=true:=by kernel_rfl
def gz (L:List ao):Bool:=L.any fun r => !(de r)
theorem nE {L:List ao} (h:gz L=false) : ∀ r∈L,de r=true:=by intro r hr;unfold gz at h;rw [F7] at h;have:=h r hr;simpa using this
section
open Go.ChangeShapes Go.WideShapes Go.ChangeAt Go.RowKit
variable {H:Type} {enc:TypeId×Value->H} {W:World} {bN:Nat} {held:Bool}
theorem gs_of {t e:TypeId} {z:Nat} (ht:prog.underlying t=some (.slice e)) (he:prog.cellsOf e=z) (hz:0<z) {fuel:Nat} {v:Value} {x:DataW H×List MemPlace} (h:DataW.trod enc prog W bN (fun _=>true) held fuel t [v]=some x) :
  ∃ a n c,clean W.heap.size v = .slice a n c/\n<=c/\(0<n -> ∀ b o s,a=some ⟨b,o,some s⟩->False):=by
 rcases DataW.trod_slice ht h with ⟨h1,_⟩|⟨a,len,cap,elems,cI,n,_,h1,_,_,hlc,hcm,hl,hel,hsp,_⟩
 ·cases h1;exact ⟨none,0,0,rfl,DF _,fun h=>absurd h (F9 0)⟩
 ·cases h1;rw [he] at hel hsp;have hpos:0<cap->a.spot=none/\a.block<W.heap.size:=by
   intro h0;have key : ∃ cs,W.cells? bN (a.add (0*z)) z=some cs:=by
    by_cases hlen:0<len
    ·have:=hel 0 hlen;rw [DC (by omega),DZ] at this;obtain ⟨cs,hc,_⟩:=this;exact ⟨cs,hc⟩
    ·have:=(hsp rfl).2 0 (by omega);rw [DC (by rw [(hsp rfl).1];omega),DZ] at this;obtain ⟨cs,hc,_⟩:=this;obtain rfl:len=0:=by omega
     exact ⟨cs,hc⟩
   obtain ⟨cs,hc⟩:=key;obtain ⟨_,hlen,hcell⟩:=World.cells?_some hc;have g:=hcell 0 hz;obtain ⟨c0,hc0⟩ : ∃ c0,cs[0]? = some c0:=⟨cs[0],DC (by omega)⟩
   rw [hc0,GK] at g;have g:W.cell? a=some c0:=g;obtain ⟨e1,e2,_⟩:=mU g;exact ⟨e1,e2⟩
  obtain ⟨g1,a',g2,g3⟩:=oO (W:=W) hlc hpos;refine ⟨_,_,_,g2,hlc,fun h0 b o s e => ?_⟩;have:=g3 (by omega);subst this;have hs:=(hpos (by omega)).1;rw [HM e] at hs;cases hs
theorem sl22 {fuel:Nat} {v:Value} {x:DataW H×List MemPlace} (h:DataW.trod enc prog W bN (fun _=>true) held fuel 22 [v]=some x) :
  dX (clean W.heap.size v)=false/\Value.oneCell' (clean W.heap.size v)=true/\gR (clean W.heap.size v) /\ ∃ L,eD (cB W (view W)) (clean W.heap.size v) L:=by
 obtain ⟨h1,n,cs,S⟩:=sl_of Tryz.underlying22 (ks:=gX) (by kernel_rfl) (by decide) rd58 h;obtain ⟨a,m,c,e,h2,h3⟩:=gs_of Tryz.underlying22 (z:=39) (by kernel_rfl) (by decide) h;obtain ⟨P,hP,hcs,hd⟩:=CH (f:=bL) (P:=ao.Wf) (fun xs hx=>rec_of hx) n cs S.typed;subst hP;subst hcs;refine ⟨h1,by rw [e];rfl,⟨a,m,c,e,h2,fun h0 b o s q=>(h3 h0 b o s q).elim⟩,P,hd,S⟩
end
end
def kV (r:ao):List Int := [(r.gO:Int),(r.oG:Int),((BR r.held:Nat):Int),IntKind.wrap .u64 r.k,IntKind.wrap .u64 r.n]
def wO:List Int->List Int->Bool
 |x::l,y::m=>if x=y then wO l m else decide (x>y)
 |_,_=>false
theorem is99:bP prog 111 f111:=by constructor<;>kernel_rfl
theorem is49:bP prog 89 f89:=by constructor<;>kernel_rfl
theorem agg140:rH prog 157=some true:=by kernel_rfl
theorem siz140:cK prog 157=some 5:=by kernel_rfl
theorem results99:f111.results.toList = [.cell 2 157]:=by kernel_rfl
theorem results49:f89.results.toList = [.tmp 4]:=by kernel_rfl
abbrev CA (l:List Int):List Value:=l.map (.int .u64)
theorem Dg (l:List Int):Abs.noHoles (CA l)=true/\aJ (CA l)=true:=by
 induction l with
 |nil=>exact ⟨rfl,rfl⟩
 |cons x l ih=>exact ⟨ih.1,ih.2⟩
theorem bld_rank (a b c d e:Int):ei (List.replicate 5 (.int .u64 0)) [(0,1,.int .u64 a),(1,1,.int .u64 b),(2,1,.int .u64 c),(3,1,.int .u64 d),(4,1,.int .u64 e)]=some (.agg (CA [a,b,c,d,e]).toArray):=rfl
set_option maxRecDepth 100000 in
theorem r99 {h:ad} (hG:4<=h.n0) {r:ao} (w:r.Wf) : ∃ h',CW 111 [.agg (bL r).toArray] h=some (.agg (CA (kV r)).toArray,h')/\aA h h':=by
 obtain ⟨h1,b1,o1,g1,n1⟩:=cJ h w;obtain ⟨h2,z2,o2,g2,n2⟩:=fresh (List.replicate 5 (.int .u64 0)) h1;have A:=js w (o2.get g1);have G2:4<=h2.n0:=by rw [o2.n0,o1.n0];exact hG
 have u:=Dg (kV r);obtain ⟨h3,e3,k3,g3,_,_⟩:=aX (n:=5) (k':=CA (kV r)) g2 (by rw [o2.n0];exact h1.n0_le_next) rfl rfl u.2;have o3:aA h1 h3:=aA.bx o2 k3 (DF _);have l3:=bc (n:=5) g3 rfl u.1;have bl:=bld_rank (r.gO:Int) (r.oG:Int) ((BR r.held:Nat):Int) (IntKind.wrap .u64 r.k) (IntKind.wrap .u64 r.n);have e3:eo 5 (ptr h1.next 0) (.agg (CA [(r.gO:Int),(r.oG:Int),((BR r.held:Nat):Int),IntKind.wrap .u64 r.k,IntKind.wrap .u64 r.n]).toArray) h2=some (undef,h3):=e3;refine ⟨h3,aD is99 hG rfl ((t99_eq _ _ _).trans ?_),o1.trans o3⟩;unfold t99;simp -implicitDefEqProofs only [b1, z2, ay, DG, A.l34, A.l35, A.l36, A.l37, A.l38, r97 G2, du, bl, e3, ze, FD, ae, af];exact cX results99 agg140 siz140 (show 2<17 by decide) _ l3
theorem idx5 {b i:Nat} (hi:i<5):idxA 5 1 (ptr b 0) (ak i)=some (ptr b i):=by unfold idxA;simp only [];rw [DL (by omega),Int.toNat_natCast,FT,ay,DG]
def uY (a b:ao):Bool:=de a&&(de b&&(decide (dx a=dx b)&&wO (kV a) (kV b)))
set_option maxRecDepth 100000 in
theorem r49 {h:ad} (hG:4<=h.n0) (hz:GZ h) {a b:ao} (wa:a.Wf) (wb:b.Wf) : ∃ h',CW 89 [.agg (bL a).toArray,.agg (bL b).toArray] h=some (.bool (uY a b),h')/\aA h h':=by
 obtain ⟨h1,b1,o1,g1,n1⟩:=cJ h wa;obtain ⟨h2,b2,o2,g2,n2⟩:=cJ h1 wb;have ca:=aM wa;have cb:=aM wb;have LA : ∀ g,aA h2 g->cx 39 (ptr h.next 0) g=some (.agg (bL a).toArray,g):=fun g o=>bc (aA.get o (o2.get g1)) ca.1 ca.2.1;have LB : ∀ g,aA h2 g->cx 39 (ptr h1.next 0) g=some (.agg (bL b).toArray,g):=fun g o=>bc (aA.get o g2) cb.1 cb.2.1;have O2:=o1.trans o2;have G2 : ∀ g,aA h2 g->4<=g.n0:=fun g o=>by rw [o.n0,O2.n0];exact hG
 have Z2 : ∀ g,aA h2 g->GZ g:=fun g o=>hz.old (O2.trans o);have R2:aA h2 h2:=az.refl _ _;have chkA : ∀ (r:ao) (g:ad),r.Wf->bF true (some (.agg (bL r).toArray,g)) (.agg (bL r).toArray)=true:=fun r g w=>qC _ _ (cA w).kinds;obtain ⟨h3,e3,o3⟩:=r48 (h:=h2) (G2 _ R2) (Z2 _ R2) wa;unfold uY;cases va:de a with
 |false=>
  rw [va] at e3;refine ⟨h3,aD is49 hG rfl ((C6 _ _ _ _).trans ?_),O2.trans o3⟩;unfold t49;simp -implicitDefEqProofs only [b1, b2, LA h2 R2, e3, aT, bw, ax, chkF, DY, DN, DV, EB, ae, af, show (some true==some false)=false from rfl]
 |true=>
  rw [va] at e3;obtain ⟨h4,e4,o4⟩:=r48 (h:=h3) (G2 _ o3) (Z2 _ o3) wb;have O4:=o3.trans o4;cases vb:de b with
  |false=>
   rw [vb] at e4;refine ⟨h4,aD is49 hG rfl ((C6 _ _ _ _).trans ?_),O2.trans O4⟩;unfold t49;simp -implicitDefEqProofs only [b1, b2, LA h2 R2, e3, LB h3 o3, e4, aT, bw, D4, aw, ax, chkF, DD, D3, DY, DP, DN, DV, EB, EE, ae, af, show (some true==some false)=false from rfl]
  |true=>
   rw [vb] at e4;obtain ⟨h5,e5,o5⟩:=r59 (h:=h4) (G2 _ O4) wa;have O5:=O4.trans o5;obtain ⟨h6,e6,o6⟩:=r59 (h:=h5) (G2 _ O5) wb;have O6:=O5.trans o6;have q6:=(str_dec (kL wa) (kL wb)).2;by_cases vc:dx a=dx b
   ·rw [DA vc] at q6 |-;obtain ⟨h7,e7,o7⟩:=r99 (h:=h6) (G2 _ O6) wa;have O7:=O6.trans o7;obtain ⟨h8,e8,o8⟩:=r99 (h:=h7) (G2 _ O7) wb;have O8:=O7.trans o8;obtain ⟨h9,z9,o9,g9,n9⟩:=fresh (List.replicate 5 (.int .u64 0)) h8;obtain ⟨h10,z10,o10,g10,n10⟩:=fresh (List.replicate 5 (.int .u64 0)) h9;have p9:h9.n0<=h8.next:=by rw [o9.n0];exact h8.n0_le_next
    have p10:h10.n0<=h9.next:=by rw [o10.n0];exact h9.n0_le_next
    have ua:=Dg (kV a);have ub:=Dg (kV b);obtain ⟨h11,e11,k11,g11,_,m11⟩:=aX (n:=5) (k':=CA (kV a)) (o10.get g9) (by rw [o10.n0];exact p9) rfl rfl ua.2;have g10':h11.get h9.next=some (List.replicate 5 (.int .u64 0)):=az.getE k11 g10 (by omega);obtain ⟨h12,e12,k12,g12,_,m12⟩:=aX (n:=5) (k':=CA (kV b)) g10' (by rw [k11.n0];exact p10) rfl rfl ub.2;have g11':h12.get h8.next=some (CA (kV a)):=az.getE k12 g11 (by omega);have O9:aA h8 h11:=aA.bx (o9.trans o10) k11 (DF _);have O12:aA h8 h12:=aA.bx O9 k12 (by omega);refine ⟨h12,aD is49 hG rfl ((C6 _ _ _ _).trans ?_),(O2.trans O8).trans O12⟩;unfold t49;simp -implicitDefEqProofs only [b1, b2, LA h2 R2, e3, LB h3 o3, e4, LA h4 O4, e5, LB h4 O4, LB h5 O5, e6, q6, LA h6 O6, e7, LB h6 O6, LB h7 O7, e8, z9, z10, e11, e12, chkA b _ wb, aT, bw, D4, aw, DD, D3, DP, DV, EE, ae, af];refine bq (n:=45) (fin:=fun ex y g=>g=h12/\((ex = .ret/\y 4 = .bool (wO (kV a) (kV b)))\/(ex = .exit 0/\wO (kV a) (kV b)=false))) (Q:=fun o:aS=>o=some (Value.bool (wO (kV a) (kV b)),h12))
     (bk (uC CW) (Inv:=fun k y g => ∃ i,i+k=5/\y 5=ptr h8.next 0/\y 6=ptr h9.next 0/\y 7=ak i/\g=h12/\wO (kV a) (kV b)=wO ((kV a).drop i) ((kV b).drop i)) ?_ 5 (by have:aB=18446744073709551616:=rfl;omega) ⟨0,DG _,rfl,rfl,rfl,rfl,rfl⟩) ?_
    ·rintro k y g' ⟨i,hik,y5,y6,y7,rfl,ho⟩;unfold mm;have lss5:aC prog .lss 3 (ak i) (.int .i64 5)=some (.bool (decide (i<5))):=eK i 5;simp -implicitDefEqProofs only [y5,y6,y7,lss5,ae,af];by_cases hi:i<5
     ·have hla:(kV a).length=5:=rfl;have hlb:(kV b).length=5:=rfl;have ea:(kV a)[i]? = some (kV a)[i]:=DC (by omega);have eb:(kV b)[i]? = some (kV b)[i]:=DC (by omega);have da:ld1 (ptr h8.next i) g'=some (.int .u64 (kV a)[i],g'):=aU g11' (by rw [EF,ea];rfl) rfl;have db:ld1 (ptr h9.next i) g'=some (.int .u64 (kV b)[i],g'):=aU g12 (by rw [EF,eb];rfl) rfl;have dra:(kV a).drop i=(kV a)[i]::(kV a).drop (i+1):=EX (by omega);have drb:(kV b).drop i=(kV b)[i]::(kV b).drop (i+1):=EX (by omega);by_cases he:(kV a)[i]=(kV b)[i]
      ·have hb:((kV a)[i] != (kV b)[i])=false:=by rw [he];simp
       simp -implicitDefEqProofs only [DA hi, idx5 hi, da, db, aZ, hb, dh (show i+1<=9223372036854775807 by omega), ae, af];refine cR.next (k-1) (by omega) ⟨i+1,by omega,y5,y6,rfl,rfl,?_⟩;rw [ho,dra,drb,wO,DL he]
      ·have hb:((kV a)[i] != (kV b)[i])=true:=by simpa using he
       simp -implicitDefEqProofs only [DA hi,idx5 hi,da,db,aZ,bD,hb,ae,af];refine cR.ret ⟨rfl,.inl ⟨rfl,?_⟩⟩;rw [ho,dra,drb,wO,DM he];rfl
     ·simp -implicitDefEqProofs only [DB hi];refine cR.out 0 ⟨rfl,.inr ⟨rfl,?_⟩⟩;rw [ho,FR (by show 5<=i;omega)];rfl
    ·rintro ex z g' ⟨rfl,⟨rfl,z2⟩|⟨rfl,hz⟩⟩
     ·rw [fq,cE,gu results49 (by decide),z2]
     ·simp -implicitDefEqProofs only [aV,b49_9,DY,t49k49_7_eq];unfold yX;rw [hz];rfl
   ·rw [DB vc] at q6 |-;refine ⟨h6,aD is49 hG rfl ((C6 _ _ _ _).trans ?_),O2.trans O6⟩;unfold t49;simp -implicitDefEqProofs only [b1, b2, LA h2 R2, e3, LB h3 o3, e4, LA h4 O4, e5, LB h4 O4, LB h5 O5, e6, q6, chkA b _ wb, aT, bw, D4, aw, DD, D3, DP, DN, DV, EB, EE, ae, af]
end Go.Proofs.YtdnahgfgoajmcaaGreatDoor
namespace Go.Proofs.YtdnahgfgoajmcaaGreatDoor
open Go Go.Abs Tryz
section
def wv (x:BitVec 32):Value := .int .u32 (x.toNat:Int)
section
variable {P:Program} {t:TypeId}
theorem By (x y:BitVec 32):aC P .add t (wv x) (wv y)=some (wv (x+y)):=by
 unfold wv;rw [lN,tR,BitVec.toNat_add]
 congr 3
theorem w_xor (x y:BitVec 32):aC P .xor t (wv x) (wv y)=some (wv (x ^^^ y)):=by unfold wv;rw [bin_xor_nat P t rfl x.isLt y.isLt,BitVec.toNat_xor]
theorem w_and (x y:BitVec 32):aC P .and t (wv x) (wv y)=some (wv (x &&& y)):=by unfold wv;rw [bin_and_nat P t rfl x.isLt y.isLt,BitVec.toNat_and]
theorem w_or (x y:BitVec 32):aC P .or t (wv x) (wv y)=some (wv (x ||| y)):=by unfold wv;rw [bin_or_nat P t rfl x.isLt y.isLt,BitVec.toNat_or]
theorem BF (x:BitVec 32) {k:Nat} (hk:k<=32):aC P .shr t (wv x) (.int .u64 (k:Int))=some (wv (x >>> k)):=by unfold wv;rw [ez P t (by show k<=32;exact hk),BitVec.toNat_ushiftRight,Nat.shiftRight_eq_div_pow]
theorem vN (x:BitVec 32) {k:Nat} (hk:k<=32):aC P .shl t (wv x) (.int .u64 (k:Int))=some (wv (x <<< k)):=by
 unfold wv;rw [dZ];unfold jP;simp only;have hm:min ((k:Int)).toNat (IntKind.bits .u32)=k:=by rw [Int.toNat_natCast];exact HB hk
 rw [DM (by omega),hm,tR,BitVec.toNat_shiftLeft,Nat.shiftLeft_eq]
 congr 2
theorem w_not (x:BitVec 32):unA .xor (wv x)=some (wv (~~~x)):=by
 unfold wv unA pe;simp only;have e1:BitVec.ofInt (IntKind.bits .u32) (if IntKind.signed .u32=true then -1 else IntKind.max .u32)=BitVec.allOnes 32:=by show BitVec.ofInt 32 4294967295=_;rfl
 have e2:BitVec.ofInt (IntKind.bits .u32) ((x.toNat:Nat):Int)=x:=by show BitVec.ofInt 32 _=x;rw [BitVec.ofInt_natCast,BitVec.ofNat_toNat,BitVec.setWidth_eq]
 rw [e1,e2];have e3:(BitVec.allOnes 32 ^^^ x) = ~~~x:=by rw [BitVec.allOnes_xor]
 show some (Value.int .u32 (IntKind.wrap .u32 (((BitVec.allOnes 32 ^^^ x).toNat:Nat):Int)))=_;rw [e3,wrap_u32 (by omega) (by have:=(~~~x).isLt;omega)]
theorem px (n:Nat) (hn:n<256) (h:ad):jC .u32 (u8 n) h=some (wv (BitVec.ofNat 32 n),h):=by unfold wv;rw [du,wrap_u32 (by omega) (by omega),HV,GG (by omega)]
end
def dR (x:BitVec 32) (n:Nat):BitVec 32:=(x <<< (32-n)) ||| (x >>> n)
end
theorem lex_or : ∀ (xs ys:List Int),xs.length=ys.length->decide (orL (List.zipWith fH xs ys)>0)=wO xs ys
 | [],[],_=>rfl
 |x::xs,y::ys,h=>by
  have ih:=lex_or xs ys (by simpa using h);rw [List.zipWith_cons_cons,orL,wO];by_cases e:x=y
  ·subst e;rw [DL rfl,DL (by unfold fH;simp),ih]
  ·have hc:fH x y≠0:=by
    unfold fH;split
    ·decide
    ·split
     ·decide
     ·omega
   rw [DM e,DM hc]
   congr 1
   unfold fH;split
   ·simp;omega
   ·split
    ·simp;omega
    ·simp;omega
 | [],_::_,h=>by simp at h
 |_::_,[],h=>by simp at h
theorem nM {a b:ao} (wa:a.Wf) (wb:b.Wf):yj a b=uY a b:=by
 unfold yj uY;cases va:de a with
 |false=>rfl
 |true=>
  cases vb:de b with
  |false=>rfl
  |true=>
   obtain ⟨a1,a2,a3,a4,a5,a6⟩:=Bb va;obtain ⟨b1,b2,b3,b4,b5,b6⟩:=Bb vb;have hk:kU a b=decide (dx a=dx b):=by
    have ia:=i8_of a1 (by omega);have ib:=i8_of b1 (by omega);rw [HZ,DR];unfold kU dx;simp only [DJ,DR];constructor
    ·rintro ⟨h1,h2,h3⟩;rw [h1,h2,h3]
    ·intro h;obtain ⟨h1,h2⟩:=IM h (by simp [wa.obj.1,wb.obj.1]);obtain ⟨h3,h4⟩:=IM h1 rfl;simp only [GD,JE] at h2 h3;exact ⟨h3,h4,by omega⟩
   have hr:decide (oe a b>0)=wO (kV a) (kV b):=by
    rw [<-lex_or (kV a) (kV b) rfl];have w1:IntKind.wrap .u64 a.k=a.k:=wrap_u64 (by omega) (by omega);have w2:IntKind.wrap .u64 a.n=a.n:=wrap_u64 (by omega) (by omega);have w3:IntKind.wrap .u64 b.k=b.k:=wrap_u64 (by omega) (by omega);have w4:IntKind.wrap .u64 b.n=b.n:=wrap_u64 (by omega) (by omega);have hb:(if a.held=b.held then (0:Int) else if a.held then 1 else -1)=fH ((BR a.held:Nat):Int) ((BR b.held:Nat):Int):=by cases a.held<;>cases b.held<;>rfl
    unfold oe kV;rw [hb,w1,w2,w3,w4];rfl
   rw [hk,hr]
end Go.Proofs.YtdnahgfgoajmcaaGreatDoor
namespace Go.Proofs.YtdnahgfgoajmcaaGreatDoor
open Go Go.Abs Tryz
attribute [local congr] aq
theorem is159:bP prog 123 f123:=by constructor<;>kernel_rfl
theorem AA {h:ad} (hG:4<=h.n0) (x:BitVec 32) {k:Nat} (hk:k<=32) {z:Int} (e:aC prog .and 120 (.int .u64 (IntKind.wrap .u64 z)) (.int .u64 31)=some (.int .u64 ((32-k:Nat):Int))):CW 123 [wv x,.int .i64 z] h=some (wv (dR x k),h):=by
 refine aD is159 hG rfl ((t159_eq _ _ _ _).trans ?_);unfold t159;have e2:aC prog .sub 120 (.int .u64 32) (.int .u64 ((32-k:Nat):Int))=some (.int .u64 ((k:Nat):Int)):=by rw [fi,show (32:Int)-((32-k:Nat):Int)=(k:Int) by omega,wrap_u64 (by omega) (by omega)]
 simp -implicitDefEqProofs only [du,e,e2,vN x (show 32-k<=32 by omega),BF x hk,w_or,ae,af];rfl
def w4 (a b c d:Nat):BitVec 32:=(BitVec.ofNat 32 a <<< 24) ||| (BitVec.ofNat 32 b <<< 16) ||| (BitVec.ofNat 32 c <<< 8) ||| BitVec.ofNat 32 d
def wAt (B:List Nat) (i:Nat):BitVec 32:=w4 (B.getD (4*i) 0) (B.getD (4*i+1) 0) (B.getD (4*i+2) 0) (B.getD (4*i+3) 0)
def vm (B:List Nat):List (BitVec 32):=(List.range 16).map (wAt B)
def s0w (x:BitVec 32):BitVec 32:=dR x 7 ^^^ dR x 18 ^^^ (x >>> 3)
def s1w (y:BitVec 32):BitVec 32:=dR y 17 ^^^ dR y 19 ^^^ (y >>> 10)
def po (l:List (BitVec 32)):BitVec 32:=l.getD (l.length-16) 0+s0w (l.getD (l.length-15) 0)+l.getD (l.length-7) 0+s1w (l.getD (l.length-2) 0)
def jJ:Nat->List (BitVec 32)->List (BitVec 32)
 | 0,l=>l
 |n+1,l=>jJ n (l ++ [po l])
abbrev eV (l:List (BitVec 32)):List Value:=l.map wv
def oH (l:List (BitVec 32)):List Value:=eV l++List.replicate (64-l.length) (.int .u32 0)
theorem tB {l:List (BitVec 32)} (h:l.length<=64):(oH l).length=64:=by unfold oH;simp;omega
theorem tb {l:List (BitVec 32)} {i:Nat} (hl:l.length=i) (hi:i<64) (x:BitVec 32):(oH l).set i (wv x)=oH (l ++ [x]):=by
 subst hl;unfold oH;have e:64-l.length=(64-(l.length+1))+1:=by omega
 rw [e,List.replicate_succ];rw [set_app (A:=eV l) (B':=wv x::List.replicate (64-(l.length+1)) (.int .u32 0)) 0 (by simp) rfl];simp
theorem xu {l:List (BitVec 32)} {i:Nat} (hi:i<l.length):(oH l)[i]? = some (wv (l.getD i 0)):=by unfold oH;rw [E7 (by simpa using hi),EF,DK,DC hi];rfl
def dP (S:List (BitVec 32)) (B:List Nat) (n:Nat):List Value:=eV S++(aY B ++ [ak n])
theorem hash_byte {S:List (BitVec 32)} {B:List Nat} {n:Nat} (hS:S.length=8) {j:Nat} (hj:j<B.length):(dP S B n)[8+j]? = some (u8 (B.getD j 0)):=by unfold dP;rw [EG (by simp [hS]),DS,hS,FF,E7 (by simpa using hj),EF,DK,DC hj];rfl
theorem mA {N b o i:Nat} (hi:i<N):idxA N 1 (ptr b o) (ak i)=some (ptr b (o+i)):=by unfold idxA;simp only [];rw [DL (by omega),Int.toNat_natCast,FT,ay]
theorem mul4 {i:Nat} (hi:i<1000):aC prog .mul 3 (.int .i64 4) (ak i)=some (ak (4*i)):=by unfold ak;rw [iC,show (4:Int)*(i:Int)=((4*i:Nat):Int) by omega,wrap_i64 (by omega) (by omega)]
theorem addc {i c:Nat} (hi:i+c<100000):aC prog .add 3 (ak i) (.int .i64 (c:Int))=some (ak (i+c)):=by unfold ak;rw [lN,show (i:Int)+(c:Int)=((i+c:Nat):Int) by omega,wrap_i64 (by omega) (by omega)]
theorem subc {i c:Nat} (hi:i<100000) (hc:c<=i):aC prog .sub 3 (ak i) (.int .i64 (c:Int))=some (ak (i-c)):=by unfold ak;rw [fi,show (i:Int)-(c:Int)=((i-c:Nat):Int) by omega,wrap_i64 (by omega) (by omega)]
theorem jw {B:List Nat} (hB:w9 B) {j:Nat} (hj:j<B.length):B.getD j 0<256:=by rw [DK,DC hj];exact hB _ (EA hj)
theorem cmp1 {h:ad} {p b:Nat} {S:List (BitVec 32)} {B:List Nat} {n:Nat} (hS:S.length=8) (hBl:B.length=64) (hB:w9 B) (hp:h.get p=some (dP S B n)) (hb:h.n0<=b) (hpb:p≠b) (hw:h.get b=some (oH []))
  {x:Nat->Value} (x0:x 0=ptr p 0) (x2:x 2=ptr b 0) (x24:x 24=ak 0) :
  Fin 241 (fun ex y g=>ex = .exit 0/\y 0=ptr p 0/\y 2=ptr b 0/\az h g (· = b)/\g.get b=some (oH (vm B))/\g.next=h.next) (iter (codeA prog CW (au f116 [1,0,1,0,0])) aB (aL 241 x) h):=by
 refine bk (uQ CW) (Inv:=fun k y g => ∃ i,i+k=16/\y 0=ptr p 0/\y 2=ptr b 0/\y 24=ak i/\az h g (· = b)/\g.get b=some (oH ((List.range i).map (wAt B)))/\g.next=h.next) ?_ 16 (by have:aB=18446744073709551616:=rfl;omega) ⟨0,DG _,x0,x2,x24,az.refl _ _,hw,rfl⟩;rintro k y g ⟨i,hik,y0,y2,y24,K,gw,gn⟩;unfold lV;have l16:aC prog .lss 3 (ak i) (.int .i64 16)=some (.bool (decide (i<16))):=eK i 16;simp -implicitDefEqProofs only [y24,l16,ae,af];by_cases hi:i<16
 ·have gp:g.get p=some (dP S B n):=az.getE K hp hpb;have lb : ∀ j,j<64->ld1 (ptr p (8+j)) g=some (u8 (B.getD j 0),g):=fun j hj=>aU gp (hash_byte hS (by omega)) rfl;have c0:=px _ (jw hB (j:=4*i) (by omega)) g;have c1:=px _ (jw hB (j:=4*i+1) (by omega)) g;have c2:=px _ (jw hB (j:=4*i+2) (by omega)) g;have c3:=px _ (jw hB (j:=4*i+3) (by omega)) g;have a1:aC prog .add 3 (ak (4*i)) (.int .i64 1)=some (ak (4*i+1)):=addc (c:=1) (by omega);have a2:aC prog .add 3 (ak (4*i)) (.int .i64 2)=some (ak (4*i+2)):=addc (c:=2) (by omega);have a3:aC prog .add 3 (ak (4*i)) (.int .i64 3)=some (ak (4*i+3)):=addc (c:=3) (by omega);have sh24 : ∀ x:BitVec 32,aC prog .shl 139 (wv x) (.int .u64 24)=some (wv (x <<< 24)):=fun x=>vN x (k:=24) (by decide);have sh16 : ∀ x:BitVec 32,aC prog .shl 139 (wv x) (.int .u64 16)=some (wv (x <<< 16)):=fun x=>vN x (k:=16) (by decide);have sh8 : ∀ x:BitVec 32,aC prog .shl 139 (wv x) (.int .u64 8)=some (wv (x <<< 8)):=fun x=>vN x (k:=8) (by decide);have ll:((List.range i).map (wAt B)).length=i:=by simp
  obtain ⟨g2,e2,k2,s2,_,m2⟩:=stored (o:=i) (v:=wv (wAt B i)) gw (by rw [K.n0];exact hb) (by rw [tB (by omega)];omega) rfl rfl;have hw4:wv (BitVec.ofNat 32 (B.getD (4*i) 0) <<< 24 ||| BitVec.ofNat 32 (B.getD (4*i+1) 0) <<< 16 ||| BitVec.ofNat 32 (B.getD (4*i+2) 0) <<< 8 ||| BitVec.ofNat 32 (B.getD (4*i+3) 0))=wv (wAt B i):=rfl;have ix:idxA 64 1 (ptr b 0) (ak i)=some (ptr b i):=by rw [mA (by omega),DG]
  simp -implicitDefEqProofs only [DA hi, y0, y2, mul4 (show i<1000 by omega), bR, ay, DG, mA (show 4*i<64 by omega), mA (show 4*i+1<64 by omega), mA (show 4*i+2<64 by omega), mA (show 4*i+3<64 by omega), lb (4*i) (by omega), lb (4*i+1) (by omega), lb (4*i+2) (by omega), lb (4*i+3) (by omega), c0, c1, c2, c3, a1, a2, a3, sh24, sh16, sh8, w_or, hw4, ix, e2, dh (show i+1<=9223372036854775807 by omega), ae, af];refine cR.next (k-1) (by omega) ⟨i+1,by omega,y0,y2,rfl,K.trans k2,?_,m2.trans gn⟩;rw [s2,tb ll (by omega),H8,FG];rfl
 ·have:i=16:=by omega
  subst this;simp -implicitDefEqProofs only [DB hi];exact cR.out 0 ⟨rfl,y0,y2,K,gw,gn⟩
theorem and25:aC prog .and 120 (.int .u64 (IntKind.wrap .u64 (-7))) (.int .u64 31)=some (.int .u64 ((32-7:Nat):Int)):=by kernel_rfl
theorem rots {h:ad} (hG:4<=h.n0) (x:BitVec 32):CW 123 [wv x,.int .i64 (-7)] h=some (wv (dR x 7),h)/\CW 123 [wv x,.int .i64 (-18)] h=some (wv (dR x 18),h)/\CW 123 [wv x,.int .i64 (-17)] h=some (wv (dR x 17),h)/\CW 123 [wv x,.int .i64 (-19)] h=some (wv (dR x 19),h) /\
  CW 123 [wv x,.int .i64 (-6)] h=some (wv (dR x 6),h)/\CW 123 [wv x,.int .i64 (-11)] h=some (wv (dR x 11),h)/\CW 123 [wv x,.int .i64 (-25)] h=some (wv (dR x 25),h)/\CW 123 [wv x,.int .i64 (-2)] h=some (wv (dR x 2),h)/\CW 123 [wv x,.int .i64 (-13)] h=some (wv (dR x 13),h)/\CW 123 [wv x,.int .i64 (-22)] h=some (wv (dR x 22),h):=
 ⟨AA hG x (by decide) and25,AA hG x (k:=18) (by decide) (by kernel_rfl),AA hG x (k:=17) (by decide) (by kernel_rfl),AA hG x (k:=19) (by decide) (by kernel_rfl),AA hG x (k:=6) (by decide) (by kernel_rfl),AA hG x (k:=11) (by decide) (by kernel_rfl),AA hG x (k:=25) (by decide) (by kernel_rfl),AA hG x (k:=2) (by decide) (by kernel_rfl),AA hG x (k:=13) (by decide) (by kernel_rfl),AA hG x (k:=22) (by decide) (by kernel_rfl)⟩
theorem td : ∀ (n:Nat) (l:List (BitVec 32)),(jJ n l).length=l.length+n
 | 0,l=>rfl
 |n+1,l=>by rw [jJ,td n,DH];simp;omega
theorem uV : ∀ (n:Nat) (l:List (BitVec 32)),jJ n l ++ [po (jJ n l)]=jJ (n+1) l
 | 0,l=>rfl
 |n+1,l=>by rw [jJ,uV n];rfl
theorem cmp2 {h:ad} (hG:4<=h.n0) {p b:Nat} {l:List (BitVec 32)} (hl:l.length=16) (hb:h.n0<=b) (hw:h.get b=some (oH l))
  {x:Nat->Value} (x0:x 0=ptr p 0) (x2:x 2=ptr b 0) (x4:x 4=ak 16) :
  Fin 241 (fun ex y g=>ex = .exit 2/\y 0=ptr p 0/\y 2=ptr b 0/\az h g (· = b)/\g.get b=some (oH (jJ 48 l))/\g.next=h.next) (iter (codeA prog CW (au f116 [1,1,0,1,0,0])) aB (aL 241 x) h):=by
 refine bk (tU CW) (Inv:=fun k y g => ∃ i,i+k=48/\y 0=ptr p 0/\y 2=ptr b 0/\y 4=ak (16+i)/\az h g (· = b)/\g.get b=some (oH (jJ i l))/\g.next=h.next) ?_ 48 (by have:aB=18446744073709551616:=rfl;omega) ⟨0,DG _,x0,x2,x4,az.refl _ _,hw,rfl⟩;rintro k y g ⟨i,hik,y0,y2,y4,K,gw,gn⟩;unfold kD;have l64:aC prog .lss 3 (ak (16+i)) (.int .i64 64)=some (.bool (decide (16+i<64))):=eK (16+i) 64;simp -implicitDefEqProofs only [y4,l64,ae,af];by_cases hi:16+i<64
 ·have len:(jJ i l).length=16+i:=by rw [td,hl]
  have hg:4<=g.n0:=by rw [K.n0];exact hG
  have s15:aC prog .sub 3 (ak (16+i)) (.int .i64 15)=some (ak (16+i-15)):=subc (c:=15) (by omega) (by omega);have s2:aC prog .sub 3 (ak (16+i)) (.int .i64 2)=some (ak (16+i-2)):=subc (c:=2) (by omega) (by omega);have s16:aC prog .sub 3 (ak (16+i)) (.int .i64 16)=some (ak (16+i-16)):=subc (c:=16) (by omega) (by omega);have s7:aC prog .sub 3 (ak (16+i)) (.int .i64 7)=some (ak (16+i-7)):=subc (c:=7) (by omega) (by omega);have ix : ∀ j,j<64->idxA 64 1 (ptr b 0) (ak j)=some (ptr b j):=fun j hj=>by rw [mA hj,DG]
  have lw : ∀ j,j<16+i->ld1 (ptr b j) g=some (wv ((jJ i l).getD j 0),g):=fun j hj=>aU gw (xu (by omega)) rfl;generalize hX:(jJ i l).getD (16+i-15) 0=X at *;generalize hY:(jJ i l).getD (16+i-2) 0=Y at *;have lX:=lw (16+i-15) (by omega);have lY:=lw (16+i-2) (by omega);rw [hX] at lX;rw [hY] at lY;obtain ⟨rx7,rx18,_⟩:=rots hg X;obtain ⟨_,_,ry17,ry19,_⟩:=rots hg Y;have sh3 : ∀ x:BitVec 32,aC prog .shr 139 (wv x) (.int .u64 3)=some (wv (x >>> 3)):=fun x=>BF x (k:=3) (by decide);have sh10 : ∀ x:BitVec 32,aC prog .shr 139 (wv x) (.int .u64 10)=some (wv (x >>> 10)):=fun x=>BF x (k:=10) (by decide);have hN:wv ((jJ i l).getD (16+i-16) 0+(dR X 7 ^^^ dR X 18 ^^^ X >>> 3)+(jJ i l).getD (16+i-7) 0+(dR Y 17 ^^^ dR Y 19 ^^^ Y >>> 10))=wv (po (jJ i l)):=by unfold po s0w s1w;rw [len,hX,hY]
  obtain ⟨g2,e2,k2,t2,_,m2⟩:=stored (o:=16+i) (v:=wv (po (jJ i l))) gw (by rw [K.n0];exact hb) (by rw [tB (by omega)];omega) rfl rfl;simp -implicitDefEqProofs only [DA hi, y2, s15, s2, s16, s7, ix (16+i-15) (by omega), ix (16+i-2) (by omega), ix (16+i-16) (by omega), ix (16+i-7) (by omega), ix (16+i) (by omega), lX, lY, lw (16+i-16) (by omega), lw (16+i-7) (by omega), rx7, rx18, ry17, ry19, w_xor, sh3, sh10, By, hN, e2, dh (show 16+i+1<=9223372036854775807 by omega), ae, af];refine cR.next (k-1) (by omega) ⟨i+1,by omega,y0,y2,rfl,K.trans k2,?_,m2.trans gn⟩;rw [t2,tb len (by omega),uV]
 ·have:i=48:=by omega
  subst this;simp -implicitDefEqProofs only [DB hi];exact cR.out 2 ⟨rfl,y0,y2,K,gw,gn⟩
def pH:List (BitVec 32):=bX.map fun v=>match v with | .int _ n=>BitVec.ofInt 32 n|_=>0
theorem rkW_eq:eV pH=bX:=by kernel_rfl
theorem xA:pH.length=64:=by unfold pH;rw [DS];kernel_rfl
structure St where
 a:BitVec 32
 b:BitVec 32
 c:BitVec 32
 d:BitVec 32
 e:BitVec 32
 f:BitVec 32
 g:BitVec 32
 i:BitVec 32
def St.l (s:St):List (BitVec 32) := [s.a,s.b,s.c,s.d,s.e,s.f,s.g,s.i]
def t1S (s:St) (k w:BitVec 32):BitVec 32:=s.i+(dR s.e 6 ^^^ dR s.e 11 ^^^ dR s.e 25)+(s.g ^^^ (s.e &&& (s.f ^^^ s.g)))+k+w
def t2S (s:St):BitVec 32:=(dR s.a 2 ^^^ dR s.a 13 ^^^ dR s.a 22)+((s.a &&& s.b) ||| (s.c &&& (s.a ||| s.b)))
def stepS (s:St) (k w:BitVec 32):St:=⟨t1S s k w+t2S s,s.a,s.b,s.c,s.d+t1S s k w,s.e,s.f,s.g⟩
def wY (W:List (BitVec 32)):Nat->St->St
 | 0,s=>s
 |n+1,s=>stepS (wY W n s) (pH.getD n 0) (W.getD n 0)
structure StE (s:St) (y:Nat->Value):Prop where
 a:y 9=wv s.a
 b:y 10=wv s.b
 c:y 11=wv s.c
 d:y 12=wv s.d
 e:y 13=wv s.e
 f:y 14=wv s.f
 g:y 15=wv s.g
 i:y 16=wv s.i
set_option maxRecDepth 100000 in
theorem cmp3 {h:ad} (hG:4<=h.n0) (hz:h.get 3=some bX) {p b:Nat} {W:List (BitVec 32)} (hl:W.length=64) (hw:h.get b=some (oH W)) {s:St}
  {x:Nat->Value} (x0:x 0=ptr p 0) (x2:x 2=ptr b 0) (x154:x 154=ak 0) (xs:StE s x) :
  Fin 241 (fun ex y g=>ex = .exit 4/\y 0=ptr p 0/\StE (wY W 64 s) y/\g=h) (iter (codeA prog CW (au f116 [1,1,1,1,1,0,1,0,0])) aB (aL 241 x) h):=by
 refine bk (pP CW) (Inv:=fun k y g => ∃ i,i+k=64/\y 0=ptr p 0/\y 2=ptr b 0/\y 154=ak i/\StE (wY W i s) y/\g=h) ?_ 64 (by have:aB=18446744073709551616:=rfl;omega) ⟨0,DG _,x0,x2,x154,xs,rfl⟩;rintro k y g ⟨i,hik,y0,y2,y154,Y,rfl⟩;unfold ik;have l64:aC prog .lss 3 (ak i) (.int .i64 64)=some (.bool (decide (i<64))):=eK i 64;simp -implicitDefEqProofs only [y154,l64,ae,af];by_cases hi:i<64
 ·have ix:idxA 64 1 (ptr b 0) (ak i)=some (ptr b i):=by rw [mA hi,DG]
  have ix3:idxA 64 1 (ptr 3 0) (ak i)=some (ptr 3 i):=by rw [mA hi,DG]
  have lw:ld1 (ptr b i) g=some (wv (W.getD i 0),g):=aU hw (xu (by omega)) rfl;have lk:ld1 (ptr 3 i) g=some (wv (pH.getD i 0),g):=aU hz (by rw [<-rkW_eq,EF,DK,DC (by rw [xA];exact hi)];rfl) rfl
  generalize hs:wY W i s=q at *;obtain ⟨_,_,_,_,re6,re11,re25,_⟩:=rots hG q.e;obtain ⟨_,_,_,_,_,_,_,ra2,ra13,ra22⟩:=rots hG q.a;simp -implicitDefEqProofs only [DA hi, y2, Y.a, Y.b, Y.c, Y.d, Y.e, Y.f, Y.g, Y.i, ix, ix3, lw, lk, re6, re11, re25, ra2, ra13, ra22, w_xor, w_and, w_or, By, dh (show i+1<=9223372036854775807 by omega), ae, af];refine cR.next (k-1) (by omega) ⟨i+1,by omega,y0,y2,rfl,?_,rfl⟩;rw [wY,hs];exact ⟨rfl,rfl,rfl,rfl,rfl,rfl,rfl,rfl⟩
 ·have:i=64:=by omega
  subst this;simp -implicitDefEqProofs only [DB hi];exact cR.out 4 ⟨rfl,y0,⟨Y.a,Y.b,Y.c,Y.d,Y.e,Y.f,Y.g,Y.i⟩,rfl⟩
def addS (l m:List (BitVec 32)):List (BitVec 32):=List.zipWith (· + ·) l m
def fX (S:List (BitVec 32)) (B:List Nat):List (BitVec 32):=addS S (wY (jJ 48 (vm B)) 64 ⟨S.getD 0 0,S.getD 1 0,S.getD 2 0,S.getD 3 0,S.getD 4 0,S.getD 5 0,S.getD 6 0,S.getD 7 0⟩).l
theorem mX {S:List (BitVec 32)} {B:List Nat} (h:S.length=8):(fX S B).length=8:=by unfold fX addS;rw [List.length_zipWith,h];rfl
theorem yP {S:List (BitVec 32)} (h:S.length=8) : ∃ a b c d e f g i,S = [a,b,c,d,e,f,g,i]:=by
 match S,h with
 | [a,b,c,d,e,f,g,i],_=>exact ⟨a,b,c,d,e,f,g,i,rfl⟩
def wZ (S L:List (BitVec 32)) (i:Nat):List (BitVec 32):=(addS S L).take i++S.drop i
theorem mix_step {S L:List (BitVec 32)} (hS:S.length=8) (hL:L.length=8) {i:Nat} (hi:i<8):(wZ S L i).getD i 0=S.getD i 0/\(wZ S L i).set i (S.getD i 0+L.getD i 0)=wZ S L (i+1)/\(wZ S L i).length=8:=by
 obtain ⟨a,b,c,d,e,f,g,j,rfl⟩:=yP hS;obtain ⟨a',b',c',d',e',f',g',j',rfl⟩:=yP hL
 match i,hi with
 | 0,_=>exact ⟨rfl,rfl,rfl⟩
 | 1,_=>exact ⟨rfl,rfl,rfl⟩
 | 2,_=>exact ⟨rfl,rfl,rfl⟩
 | 3,_=>exact ⟨rfl,rfl,rfl⟩
 | 4,_=>exact ⟨rfl,rfl,rfl⟩
 | 5,_=>exact ⟨rfl,rfl,rfl⟩
 | 6,_=>exact ⟨rfl,rfl,rfl⟩
 | 7,_=>exact ⟨rfl,rfl,rfl⟩
theorem vD {S:List (BitVec 32)} {B:List Nat} {n j:Nat} (hj:j<S.length):(dP S B n)[j]? = some (wv (S.getD j 0)):=by unfold dP;rw [E7 (by simpa using hj),EF,DK,DC hj];rfl
theorem hash_set {S:List (BitVec 32)} {B:List Nat} {n j:Nat} (hj:j<S.length) (x:BitVec 32):(dP S B n).set j (wv x)=dP (S.set j x) B n:=by unfold dP;rw [JD _ _ (by simpa using hj)];show (S.map wv).set j (wv x)++_=(S.set j x).map wv++_;rw [I4]
theorem hash_len {S:List (BitVec 32)} {B:List Nat} {n:Nat}:(dP S B n).length=S.length+B.length+1:=by unfold dP;simp;omega
theorem cmp4 {h:ad} {p:Nat} {S L:List (BitVec 32)} {B:List Nat} {n:Nat} (hS:S.length=8) (hL:L.length=8) (hp:h.get p=some (dP S B n)) (hp0:h.n0<=p)
  {x:Nat->Value} (x0:x 0=ptr p 0) (x224:x 224 = .agg (eV L).toArray) (x225:x 225=ak 0) :
  Fin 241 (fun ex _ g=>ex = .exit 6/\az h g (· = p)/\g.get p=some (dP (addS S L) B n)/\g.next=h.next) (iter (codeA prog CW (au f116 [1,1,1,1,1,1,1,0,0])) aB (aL 241 x) h):=by
 have hm0:wZ S L 0=S:=rfl;have hm8:wZ S L 8=addS S L:=by obtain ⟨a,b,c,d,e,f,g,j,rfl⟩:=yP hS;obtain ⟨a',b',c',d',e',f',g',j',rfl⟩:=yP hL;rfl
 refine bk (oP CW) (Inv:=fun k y g => ∃ i,i+k=8/\y 0=ptr p 0/\y 224 = .agg (eV L).toArray/\y 225=ak i/\az h g (· = p)/\g.get p=some (dP (wZ S L i) B n)/\g.next=h.next) ?_ 8 (by have:aB=18446744073709551616:=rfl;omega) ⟨0,DG _,x0,x224,x225,az.refl _ _,by rw [hm0];exact hp,rfl⟩;rintro k y g ⟨i,hik,y0,y224,y225,K,gp,gn⟩;unfold iz;have l8:aC prog .lss 3 (ak i) (.int .i64 8)=some (.bool (decide (i<8))):=eK i 8;simp -implicitDefEqProofs only [y225,l8,ae,af];by_cases hi:i<8
 ·obtain ⟨m1,m2,m3⟩:=mix_step hS hL hi;have ix:idxA 8 1 (ptr p 0) (ak i)=some (ptr p i):=by rw [mA hi,DG]
  have ia:ixA1 8 1 (.agg (eV L).toArray) (ak i)=some (wv (L.getD i 0)):=by unfold ixA1;simp only [];rw [DL (by omega),Int.toNat_natCast,FT,G1,EF,DK,DC (by omega)];rfl
  have lp:ld1 (ptr p i) g=some (wv (S.getD i 0),g):=by rw [<-m1];exact aU gp (vD (by omega)) rfl
  obtain ⟨g2,e2,k2,t2,_,n2⟩:=stored (o:=i) (v:=wv (S.getD i 0+L.getD i 0)) gp (by rw [K.n0];exact hp0) (by rw [hash_len,m3];omega) rfl rfl;simp -implicitDefEqProofs only [DA hi, y0, y224, ia, bR, ay, DG, ix, lp, By, e2, dh (show i+1<=9223372036854775807 by omega), ae, af];refine cR.next (k-1) (by omega) ⟨i+1,by omega,y0,y224,rfl,K.trans k2,?_,n2.trans gn⟩;rw [t2,hash_set (by omega),m2]
 ·have:i=8:=by omega
  subst this;simp -implicitDefEqProofs only [DB hi];rw [hm8] at gp;exact cR.out 6 ⟨rfl,K,gp,gn⟩
theorem is149:bP prog 116 f116:=by constructor<;>kernel_rfl
theorem results149:f116.results.toList = []:=by kernel_rfl
theorem bld8v (a b c d e f g i:Int):ei (List.replicate 8 (.int .u32 0)) [(0,1,.int .u32 a),(1,1,.int .u32 b),(2,1,.int .u32 c),(3,1,.int .u32 d),(4,1,.int .u32 e),(5,1,.int .u32 f),(6,1,.int .u32 g),(7,1,.int .u32 i)]=some (.agg ([Value.int .u32 a,.int .u32 b,.int .u32 c,.int .u32 d,.int .u32 e,.int .u32 f,.int .u32 g,.int .u32 i]).toArray):=by kernel_rfl
theorem bld8 (a b c d e f g i:BitVec 32):ei (List.replicate 8 (.int .u32 0)) [(0,1,wv a),(1,1,wv b),(2,1,wv c),(3,1,wv d),(4,1,wv e),(5,1,wv f),(6,1,wv g),(7,1,wv i)]=some (.agg (eV [a,b,c,d,e,f,g,i]).toArray):=bld8v _ _ _ _ _ _ _ _
set_option maxRecDepth 100000 in
theorem r149 {h:ad} (hG:4<=h.n0) (hz:h.get 3=some bX) {p:Nat} {S:List (BitVec 32)} {B:List Nat} {n:Nat} (hS:S.length=8) (hBl:B.length=64) (hB:w9 B) (hp:h.get p=some (dP S B n)) (hp0:h.n0<=p) :
  ∃ h',CW 116 [ptr p 0] h=some (.tuple #[],h')/\az h h' (· = p)/\h'.get p=some (dP (fX S B) B n):=by
 have hlt:=h.aO hp;obtain ⟨h1,z1,o1,g1,n1⟩:=fresh (List.replicate 64 (.int .u32 0)) h;have hb1:h1.n0<=h.next:=by rw [o1.n0];exact h.n0_le_next
 have hne:p≠h.next:=by omega
 have key : ∃ o:aS,t149 CW (ptr p 0) h=o /\ ∃ h',o=some (.tuple #[],h')/\az h h' (· = p)/\h'.get p=some (dP (fX S B) B n):=by
  refine ⟨_,rfl,?_⟩;unfold t149;simp -implicitDefEqProofs only [z1, ae];refine bq (Q:=fun o:aS => ∃ h',o=some (.tuple #[],h')/\az h h' (· = p)/\h'.get p=some (dP (fX S B) B n)) (cmp1 (p:=p) (b:=h.next) hS hBl hB (aA.get o1 hp) hb1 hne g1 rfl rfl rfl) ?_;rintro _ y g ⟨rfl,y0,y2,K2,G2,N2⟩;simp -implicitDefEqProofs only [aV,b149_3,DY,AI];unfold sc;simp -implicitDefEqProofs only [ae];have hg2:4<=g.n0:=by rw [K2.n0,o1.n0];exact hG
  refine bq (Q:=fun o:aS => ∃ h',o=some (.tuple #[],h')/\az h h' (· = p)/\h'.get p=some (dP (fX S B) B n)) (cmp2 (p:=p) (b:=h.next) hg2 (l:=vm B) (by simp [vm]) (by rw [K2.n0];exact hb1) G2 y0 y2 rfl) ?_;rintro _ y' g3 ⟨rfl,y0',y2',K3,G3,N3⟩;simp -implicitDefEqProofs only [aV,b149_6,DY,Ae];unfold sJ;have O3:aA h g3:=(aA.bx o1 K2 (DF _)).also K3 (fun d hd e=>by omega);have hp3:=aA.get O3 hp;have lp : ∀ j,j<8->ld1 (ptr p j) g3=some (wv (S.getD j 0),g3):=fun j hj=>aU hp3 (vD (by omega)) rfl;have ix : ∀ j,j<8->idxA 8 1 (ptr p 0) (ak j)=some (ptr p j):=fun j hj=>by rw [mA hj,DG]
  have i0:idxA 8 1 (ptr p 0) (.int .i64 0)=some (ptr p 0):=ix 0 (by decide);have i1:idxA 8 1 (ptr p 0) (.int .i64 1)=some (ptr p 1):=ix 1 (by decide);have i2:idxA 8 1 (ptr p 0) (.int .i64 2)=some (ptr p 2):=ix 2 (by decide);have i3:idxA 8 1 (ptr p 0) (.int .i64 3)=some (ptr p 3):=ix 3 (by decide);have i4:idxA 8 1 (ptr p 0) (.int .i64 4)=some (ptr p 4):=ix 4 (by decide);have i5:idxA 8 1 (ptr p 0) (.int .i64 5)=some (ptr p 5):=ix 5 (by decide);have i6:idxA 8 1 (ptr p 0) (.int .i64 6)=some (ptr p 6):=ix 6 (by decide);have i7:idxA 8 1 (ptr p 0) (.int .i64 7)=some (ptr p 7):=ix 7 (by decide);simp -implicitDefEqProofs only [y0',bR,ay,DG,i0,i1,i2,i3,i4,i5,i6,i7,lp 0 (by decide),lp 1 (by decide),lp 2 (by decide),lp 3 (by decide),lp 4 (by decide),lp 5 (by decide),lp 6 (by decide),lp 7 (by decide),ae,af];have hg3:4<=g3.n0:=by rw [O3.n0];exact hG
  refine bq (Q:=fun o:aS => ∃ h',o=some (.tuple #[],h')/\az h h' (· = p)/\h'.get p=some (dP (fX S B) B n)) (cmp3 (p:=p) (b:=h.next) hg3 (aA.get O3 hz) (W:=jJ 48 (vm B)) (by rw [td];simp [vm]) G3 (s:=⟨S.getD 0 0,S.getD 1 0,S.getD 2 0,S.getD 3 0,S.getD 4 0,S.getD 5 0,S.getD 6 0,S.getD 7 0⟩) y0' y2' rfl ⟨rfl,rfl,rfl,rfl,rfl,rfl,rfl,rfl⟩) ?_;rintro _ y4 g4 ⟨rfl,y40,Y,rfl⟩;simp -implicitDefEqProofs only [aV,b149_16,DY,yf];unfold pg;simp -implicitDefEqProofs only [Y.a,Y.b,Y.c,Y.d,Y.e,Y.f,Y.g,Y.i,bld8,ae,af];refine bq (Q:=fun o:aS => ∃ h',o=some (.tuple #[],h')/\az h h' (· = p)/\h'.get p=some (dP (fX S B) B n)) (cmp4 (p:=p) (S:=S) (L:=(wY (jJ 48 (vm B)) 64 ⟨S.getD 0 0,S.getD 1 0,S.getD 2 0,S.getD 3 0,S.getD 4 0,S.getD 5 0,S.getD 6 0,S.getD 7 0⟩).l) hS rfl hp3 (by rw [O3.n0];exact hp0) y40 rfl rfl) ?_;rintro _ y5 g5 ⟨rfl,K5,G5,N5⟩;simp -implicitDefEqProofs only [aV,b149_25,DY];refine ⟨g5,?_,(O3.mono (fun _ _ h=>h.elim)).trans K5,G5⟩;rw [cE,results149];rfl
 obtain ⟨o,e,h',e',k,g⟩:=key;exact ⟨h',aD is149 hG rfl ((t149_eq _ _ _).trans (e.trans e')),k,g⟩
structure HD where
 S:List (BitVec 32)
 B:List Nat
 n:Nat
structure HD.Ok (s:HD):Prop where
 S:s.S.length=8
 B:s.B.length=64
 oC:w9 s.B
abbrev HD.cells (s:HD):List Value:=dP s.S s.B s.n
def HD.put (s:HD) (l:List Nat):HD:=
 let fA:=s.n%64
 let k:=min l.length (64-fA)
 let B:=s.B.take fA++(l.take k++s.B.drop (fA+k))
 ⟨if fA+k=64 then fX s.S B else s.S,B,s.n+k⟩
def HD.wrN:Nat->HD->List Nat->HD
 | 0,s,_=>s
 |f+1,s,l=>if l = [] then s else HD.wrN f (s.put l) (l.drop (min l.length (64-s.n%64)))
def HD.wr (s:HD) (l:List Nat):HD:=HD.wrN l.length s l
theorem HD.wrN_le : ∀ (f g:Nat) (s:HD) (l:List Nat),l.length<=f->l.length<=g->HD.wrN f s l=HD.wrN g s l
 | 0,0,_,_,_,_=>rfl
 | 0,g+1,s,l,h,_=>by have:l = []:=DU.1 (by omega);rw [HD.wrN,HD.wrN,DL this]
 |f+1,0,s,l,_,h=>by have:l = []:=DU.1 (by omega);rw [HD.wrN,HD.wrN,DL this]
 |f+1,g+1,s,l,h1,h2=>by
  rw [HD.wrN,HD.wrN];by_cases e:l = []
  ·rw [DL e,DL e]
  ·rw [DM e,DM e];have hp:0<l.length:=HN.2 e;have hm:s.n%64<64:=GV _ (by decide);exact HD.wrN_le f g _ _ (by rw [D8];omega) (by rw [D8];omega)
theorem HD.wr_nil (s:HD):s.wr []=s:=rfl
theorem HD.wr_put (s:HD) {l:List Nat} (h:l ≠ []):s.wr l=(s.put l).wr (l.drop (min l.length (64-s.n%64))):=by
 unfold HD.wr;have hp:0<l.length:=HN.2 h;obtain ⟨f,hf⟩ : ∃ f,l.length=f+1:=⟨l.length-1,by omega⟩
 rw [hf,HD.wrN,DM h,hf];have hm:s.n%64<64:=GV _ (by decide);exact HD.wrN_le _ _ _ _ (by rw [D8];omega) (DF _)
theorem HD.put_ok {s:HD} (o:s.Ok) {l:List Nat} (hl:w9 l):(s.put l).Ok:=by
 have hm:s.n%64<64:=GV _ (by decide);unfold HD.put;refine ⟨?_,?_,?_⟩
 ·simp only;split
  ·exact mX o.S
  ·exact o.S
 ·simp only [DH,DW,D8,o.B];omega
 ·intro x hx;simp only [D9] at hx;rcases hx with hx|hx|hx
  ·exact o.oC x (EZ hx)
  ·exact hl x (EZ hx)
  ·exact o.oC x (FV hx)
theorem arr64 {p i:Nat} (h:i<64):sliceArr 64 1 (ptr p 8) (some (ak i)) none none=some (.slice (some ⟨p,8+i,none⟩) (64-i) (64-i)):=by
 have b1:boundA 64 64 (none:Option Value)=some 64:=rfl;have b2:boundA 0 64 (some (ak i))=some i:=by unfold boundA ak;simp only;rw [DL (by omega),Int.toNat_natCast]
 unfold sliceArr;simp only [boundsA,b1,b2];show some (Value.slice (some ⟨p,if 64=i then 8 else 8+i*1,none⟩) (64-i) (64-i))=_;rw [DM (by omega),FT]
theorem copy_min {h:ad} {b off dn dc c n k:Nat} {s:Option Nat} {a:Option Addr} {A B C:List Value} {l:List Nat} (g:h.get b=some (A++(B++C))) (h0:h.n0<=b) (hA:A.length=off) (hB:B.length=k) (hs:av a n h=some l) (hk:k=min n dn) (hk0:0<k) :
  ∃ g',sX 1 (.slice (some ⟨b,off,s⟩) dn dc) (.slice a n c) h=some (ak k,g')/\az h g' (· = b)/\g'.get b=some (A++(aY (l.take k)++C))/\g'.next=h.next:=by
 obtain ⟨hl,hb,_⟩:=aK hs;have hf:=hJ hs (show k<=n by omega) (c:=c);have hlk:(l.take k).length=k:=by rw [DW];omega
 have hsp:splice (A++(B++C)) off (aY (l.take k))=A++(aY (l.take k)++C):=ku hA hB (by rw [DS];exact hlk);refine ⟨h.set b (A++(aY (l.take k)++C)),?_,az.set h0 g (.inr rfl),ad.dF h0 g _,rfl⟩;unfold sX;simp only [ie];rw [<-hk,hf];simp only;rw [DM (by omega)];unfold stL;simp only [g];rw [DL (by
  have h1:off+(aY (l.take k)).length<=(A++(B++C)).length:=by rw [DH,DH,DS,hA,hB];omega
  simp only [DA h0,DA h1,(Cq (l.take k)).2,FD]),hsp]
 rfl
theorem is122:bP prog 96 f96:=by constructor<;>kernel_rfl
theorem results122:f96.results.toList = []:=by kernel_rfl
theorem eql158 (b o:Nat):aC prog .eql 142 (ptr b o) (.pointer none)=some (.bool false):=by kernel_rfl
theorem u8s_split {B:List Nat} {i k:Nat}:aY B=aY (B.take i)++(aY ((B.drop i).take k)++aY (B.drop (i+k))):=by
 show B.map u8=(B.take i).map u8++(((B.drop i).take k).map u8++(B.drop (i+k)).map u8)
 rw [<-List.map_append,<-List.map_append,<-List.drop_drop,EL,EL]
set_option maxRecDepth 100000 in
theorem r122 {h:ad} (hG:4<=h.n0) (hz:h.get 3=some bX) {p:Nat} {s:HD} (o:s.Ok) (hp:h.get p=some s.cells) (hp0:h.n0<=p) {a:Option Addr} {n c:Nat} {l:List Nat} (hl:av a n h=some l) (hg:0<n->hI a n c=true) (ha : ∀ y,a=some y->0<n -> ¬y.block=p) (hfit:s.n+n<=1000000) :
  ∃ h',CW 96 [ptr p 0,.slice a n c] h=some (.tuple #[],h')/\az h h' (· = p)/\h'.get p=some (s.wr l).cells/\(s.wr l).Ok/\(s.wr l).n=s.n+n:=by
 have hlen0:l.length=n:=(aK hl).1;have h3p : ¬3=p:=by have:=h.aO hp;intro e;omega
 have key : ∃ o:aS,t122 CW (ptr p 0) (.slice a n c) h=o /\ ∃ h',o=some (.tuple #[],h')/\az h h' (· = p)/\h'.get p=some (s.wr l).cells/\(s.wr l).Ok/\(s.wr l).n=s.n+n:=by
  refine ⟨_,rfl,?_⟩;unfold t122;simp -implicitDefEqProofs only [eql158,ae,af];refine bq (n:=40) (fin:=fun ex _ g=>ex = .exit 0/\az h g (· = p)/\g.get p=some (s.wr l).cells/\(s.wr l).Ok/\(s.wr l).n=s.n+n) (Q:=fun o:aS => ∃ h',o=some (.tuple #[],h')/\az h h' (· = p)/\h'.get p=some (s.wr l).cells/\(s.wr l).Ok/\(s.wr l).n=s.n+n)
   (bk (yg CW) (Inv:=fun k y g => ∃ (s':HD) (a':Option Addr) (n' c':Nat) (l':List Nat),n'=k/\y 0=ptr p 0/\y 1 = .slice a' n' c'/\av a' n' g=some l'/\(0<n'->hI a' n' c'=true)/\(∀ y,a'=some y->0<n' -> ¬y.block=p)/\s'.Ok/\g.get p=some s'.cells/\az h g (· = p)/\s'.wr l'=s.wr l/\s'.n+n'=s.n+n) ?_ n (by have:aB=18446744073709551616:=rfl;omega) ⟨s,a,n,c,l,rfl,rfl,rfl,hl,hg,ha,o,hp,az.refl _ _,rfl,rfl⟩) ?_
  ·rintro k y g ⟨s',a',n',c',l',rfl,y0,y1,sl',hg',ha',o',gp,K,hw,hn⟩;unfold pU;have hll:lenL (.slice a' n' c')=some (ak n'):=rfl;have hgt:aC prog .gtr 3 (ak n') (.int .i64 0)=some (.bool (decide (0<n'))):=by
    unfold ak;rw [bD]
    congr 2
    rw [HQ];omega
   have hlen:l'.length=n':=(aK sl').1;have hby:w9 l':=(aK sl').2.1;simp -implicitDefEqProofs only [y1,hll,hgt,ae,af];by_cases hpos:0<n'
   ·have hm:s'.n%64<64:=GV _ (by decide);generalize hat:s'.n%64=fA at *;generalize hk:min n' (64-fA)=k;have hkp:0<k:=by omega
    have hp0g:g.n0<=p:=by rw [K.n0];exact hp0
    have l72:ld1 (ptr p 72) g=some (ak s'.n,g):=aU gp (by unfold HD.cells dP;rw [EG (by simp [o'.S]),EG (by simp [o'.S,o'.B])];simp [o'.S,o'.B]) rfl
    have hrem:aC prog .rem 3 (ak s'.n) (.int .i64 64)=some (ak fA):=by unfold ak;rw [tq prog 3 .i64 _ 64 (by decide),<-hat];rfl
    have gp1:g.get p=some ((eV s'.S++aY (s'.B.take fA))++(aY ((s'.B.drop fA).take k)++(aY (s'.B.drop (fA+k)) ++ [ak s'.n]))):=by rw [gp];unfold HD.cells dP;rw [u8s_split (B:=s'.B) (i:=fA) (k:=k)];simp only [EC]
    obtain ⟨g2,e2,k2,G2,n2⟩:=copy_min (s:=none) (dn:=64-fA) (dc:=64-fA) (c:=c') (k:=k) (off:=8+fA) gp1 hp0g (by simp [o'.S,o'.B];omega) (by simp [o'.B];omega) sl' hk.symm hkp;have ll72:ld1 (ptr p 72) g2=some (ak s'.n,g2):=aU G2 (by
     rw [EG (by simp [o'.S,o'.B];omega),EG (by simp [o'.S,o'.B];omega),EG (by simp [o'.S,o'.B];omega)];have:72-(eV s'.S++aY (List.take fA s'.B)).length-(aY (List.take k l')).length-(aY (List.drop (fA+k) s'.B)).length=0:=by simp [o'.S,o'.B];omega
     rw [this];rfl) rfl
    have hadd:aC prog .add 3 (ak s'.n) (ak k)=some (ak (s'.n+k)):=by unfold ak;rw [lN,show (s'.n:Int)+(k:Int)=((s'.n+k:Nat):Int) by omega,wrap_i64 (by omega) (by omega)]
    have hadd2:aC prog .add 3 (ak fA) (ak k)=some (ak (fA+k)):=by unfold ak;rw [lN,show (fA:Int)+(k:Int)=((fA+k:Nat):Int) by omega,wrap_i64 (by omega) (by omega)]
    have hp2:g2.n0<=p:=by rw [k2.n0];exact hp0g
    obtain ⟨g3,e3,k3,G3,_,n3⟩:=stored (o:=72) (v:=ak (s'.n+k)) G2 hp2 (by simp [o'.S,o'.B];omega) rfl rfl;have hBn:((s'.put l').B)=s'.B.take fA++(l'.take k++s'.B.drop (fA+k)):=by unfold HD.put;simp only [hat,hlen,hk]
    have hnn:(s'.put l').n=s'.n+k:=by unfold HD.put;simp only [hat,hlen,hk]
    have G3':g3.get p=some (dP s'.S (s'.put l').B (s'.put l').n):=by
     rw [G3,hBn,hnn];unfold dP;have e1:((eV s'.S++aY (s'.B.take fA))++(aY (l'.take k)++(aY (s'.B.drop (fA+k)) ++ [ak s'.n])))=((eV s'.S++aY (s'.B.take fA))++(aY (l'.take k)++aY (s'.B.drop (fA+k)))) ++ [ak s'.n]:=by simp only [EC]
     rw [e1,set_app (A:=(eV s'.S++aY (s'.B.take fA))++(aY (l'.take k)++aY (s'.B.drop (fA+k)))) (B' := [ak (s'.n+k)]) 0 (by simp [o'.S,o'.B];omega) rfl];simp only [FG,EC]
    have sl3:av a' n' g3=some l':=(k2.trans k3).bytes sl' ha';obtain ⟨a2,c2,es,ss,gs,bs⟩:=BU (vl:=some (ak k)) (vh:=none) (lo:=k) (hi:=n') (hg' hpos) sl3 (by omega) (DF _) rfl (by unfold boundA ak;simp only;rw [DL (by omega),Int.toNat_natCast])
    have hss:((l'.drop k).take (n'-k))=l'.drop k:=D1 (by rw [D8];omega);rw [hss] at ss;have hwr:(s'.put l').wr (l'.drop k)=s.wr l:=by rw [<-hw,HD.wr_put s' (l:=l') (fun e=>by rw [e] at hlen;simp at hlen;omega),hat,hlen,hk]
    have ok2:=HD.put_ok o' hby;have ha2 : ∀ y,a2=some y->0<n'-k -> ¬y.block=p:=fun y hy _ e=>by obtain ⟨y0,h1,h2⟩:=bs y hy;exact ha' y0 h1 hpos (h2.trans e)
    have K3:az h g3 (· = p):=(K.trans k2).trans k3;by_cases hc:fA+k=64
    ·have hceq:aC prog .eql 3 (ak (fA+k)) (.int .i64 64)=some (.bool true):=by unfold ak;rw [bA,hc];rfl
     have hg3:4<=g3.n0:=by rw [K3.n0];exact hG
     obtain ⟨g4,e4,k4,G4⟩:=r149 hg3 (az.getE K3 hz h3p) (p:=p) o'.S ok2.B ok2.oC G3' (by rw [K3.n0];exact hp0);have hS:(s'.put l').S=fX s'.S (s'.put l').B:=by unfold HD.put;simp only [hat,hlen,hk];rw [DL hc]
     rw [<-hS] at G4;simp -implicitDefEqProofs only [DA hpos,y0,bR,ay,DG,l72,hrem,arr64 hm,e2,ll72,hadd,e3,es,hadd2,hceq,e4,ae,af];exact cR.next (n'-k) (by omega) ⟨s'.put l',a2,n'-k,c2,l'.drop k,rfl,y0,rfl,k4.bytes ss ha2,fun _=>gs,ha2,ok2,G4,K3.trans k4,hwr,by rw [hnn];omega⟩
    ·have hceq:aC prog .eql 3 (ak (fA+k)) (.int .i64 64)=some (.bool false):=by
      unfold ak;rw [bA]
      congr 2
      simp only [II,ne_eq];omega
     have hS:(s'.put l').S=s'.S:=by unfold HD.put;simp only [hat,hlen,hk];rw [DM hc]
     rw [<-hS] at G3';simp -implicitDefEqProofs only [DA hpos,y0,bR,ay,DG,l72,hrem,arr64 hm,e2,ll72,hadd,e3,es,hadd2,hceq,ae,af];exact cR.next (n'-k) (by omega) ⟨s'.put l',a2,n'-k,c2,l'.drop k,rfl,y0,rfl,ss,fun _=>gs,ha2,ok2,G3',K3,hwr,by rw [hnn];omega⟩
   ·have h0:n'=0:=by omega
    subst h0;have:l' = []:=DU.1 hlen;subst this;simp -implicitDefEqProofs only [DB hpos];rw [HD.wr_nil] at hw;refine cR.out 0 ⟨rfl,K,by rw [<-hw];exact gp,by rw [<-hw];exact o',by rw [<-hw];omega⟩
  ·rintro _ y g ⟨rfl,K,G,O,N⟩;simp -implicitDefEqProofs only [aV,b122_2,DY];rw [cE,results122];exact ⟨g,rfl,K,G,O,N⟩
 obtain ⟨o1,e,h',e',r⟩:=key;exact ⟨h',aD is122 hG rfl ((t122_eq _ _ _ _).trans (e.trans e')),r⟩
end Go.Proofs.YtdnahgfgoajmcaaGreatDoor
