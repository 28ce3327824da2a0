/-
  A part of the proof, spaces and names shortened by a program (a claim may hold 1,500,000 bytes).
  Conditions: as each theorem states.
-/
import Derived.Test.YtdnahgfgoajmcaaGreatDoorG13
import Derived.OpenShut
namespace Go.Proofs.YtdnahgfgoajmcaaGreatDoor
open Go Go.Abs Tryz
open Go.ChangeShapes Go.WideShapes Go.ChangeAt Go.RowKit
section
def Pc (ks:List Kd) (o:Nat) (cs:List Value):Prop:=df ks ((cs.drop o).take ks.length)
theorem Pc.app {ks ls:List Kd} {o:Nat} {cs:List Value} (x:Pc ks o cs) (y:Pc ls (o+ks.length) cs):Pc (ks++ls) o cs:=by unfold Pc at *;rw [DE,List.take_add,FV];exact x.app y
theorem Pc.whole {ks:List Kd} {cs:List Value} (x:Pc ks 0 cs) (h:cs.length=ks.length):df ks cs:=by unfold Pc at x;rw [EP,<-h,GN] at x;exact x
theorem te {n:Nat} {v:Value} (h:nice n v=true):clean n v=v:=by unfold clean;rw [DL h]
theorem Kd.has.clean {k:Kd} {v:Value} (h:k.has v) (n:Nat):clean n v=v:=by
 cases k with
 |u8=>obtain ⟨m,rfl,_⟩:=h;rfl
 |i k=>obtain ⟨m,rfl,_⟩:=h;rfl
 |b=>obtain ⟨t,rfl⟩:=h;rfl
theorem df.clean {ks:List Kd} {cs:List Value} (h:df ks cs) (n:Nat):cs.map (clean n)=cs:=by
 refine FU fun j => ?_;rw [EN];by_cases hj:j<ks.length
 ·obtain ⟨v,h1,h2⟩:=h.2 j _ (DB hj);rw [h1,Option.map_some,h2.clean]
 ·rw [ET (by rw [h.1];omega)];rfl
theorem u8_lit {n:Int} (h:(Lit.int .u8 n).wf=true) : ∃ m:Nat,n=m/\m<256:=by simp [Lit.wf,IntKind.min,IntKind.max,IntKind.signed,IntKind.bits] at h;exact ⟨n.toNat,by omega,by omega⟩
theorem wi {W:World} {a:Addr} {len cap:Nat} (hlc:len<=cap) (hc:0<cap->a.spot=none/\a.block<W.heap.size) :
  eK (clean W.heap.size (.slice (some a) len cap))=false /\ ∃ a' ,clean W.heap.size (.slice (some a) len cap) = .slice (some a') len cap/\(0<cap->a'=a):=by
 obtain ⟨b,off,s⟩:=a;by_cases h0:0<cap
 ·obtain ⟨h1,h2⟩:=hc h0;have h1':s=none:=h1;have h2':b<W.heap.size:=h2;subst h1';have hn:nice W.heap.size (.slice (some ⟨b,off,none⟩) len cap)=true:=by simpa [nice] using h2'
  rw [te hn];exact ⟨rfl,_,rfl,fun _=>rfl⟩
 ·obtain rfl:cap=0:=by omega
  obtain rfl:len=0:=by omega
  by_cases hn:nice W.heap.size (.slice (some ⟨b,off,s⟩) 0 0)=true
  ·rw [te hn];exact ⟨rfl,_,rfl,fun h=>absurd h h0⟩
  ·have:clean W.heap.size (.slice (some ⟨b,off,s⟩) 0 0) = .slice (some ⟨0,0,some 0⟩) 0 0:=by unfold clean;rw [DM hn];rfl
   rw [this];exact ⟨rfl,_,rfl,fun h=>absurd h h0⟩
theorem BD (a:Addr) (n:Nat):(a.add n).block=a.block:=by unfold Addr.add;split<;>rfl
theorem add_off (a:Addr) (n:Nat):(a.add n).off=a.off+n:=by
 unfold Addr.add;split
 ·rename_i h;rw [h];rfl
 ·rfl
section
variable {H:Type} {enc:TypeId×Value->H} {W:World} {b9:Nat} {held:Bool}
def pQ (enc:TypeId×Value->H) (W:World) (b9:Nat) (held:Bool) (t:TypeId) (ks:List Kd):Prop:=
 ∀ fuel cs x,DataW.trod enc prog W b9 (fun _=>true) held fuel t cs=some x->df ks cs
theorem reads_u8 {t:TypeId} (ht:prog.underlying t=some (.int .u8)):pQ enc W b9 held t [.u8]:=fun fuel cs x h=>by obtain ⟨n,rfl,_,w⟩:=DataW.trod_int ht h;obtain ⟨m,rfl,hm⟩:=u8_lit w;exact .one ⟨m,rfl,hm⟩
theorem rn {t:TypeId} {k:IntKind} (ht:prog.underlying t=some (.int k)):pQ enc W b9 held t [.i k]:=fun fuel cs x h=>by obtain ⟨n,rfl,_,w⟩:=DataW.trod_int ht h;exact .one ⟨n,rfl,w⟩
theorem reads_b {t:TypeId} (ht:prog.underlying t=some .bool):pQ enc W b9 held t [.b]:=fun fuel cs x h=>by obtain ⟨n,rfl,_⟩:=DataW.trod_bool ht h;exact .one ⟨n,rfl⟩
theorem reads_arr {t e:TypeId} {n:Nat} {k:Kd} (ht:prog.underlying t=some (.array n e)) (h1:prog.cellsOf e=1) (hn:prog.cellsOf t=n) (R:pQ enc W b9 held e [k]):pQ enc W b9 held t (List.replicate n k):=fun fuel cs x h=>by
 obtain ⟨xs,m,rfl,_,hl,hx,hf⟩:=DataW.trod_array ht h;rw [hn] at hl;refine ⟨by rw [hl,IC],fun j t' hj => ?_⟩;have hj':j<n:=by
  have:=(EV.1 hj).1
  rwa [IC] at this
 rw [GY,DL hj'] at hj;cases hj;have:=hf j hj';rw [DB (by omega),h1,GF] at this;obtain ⟨v,g1,g2⟩:=(R _ _ _ this).2 0 k rfl;rw [FK,DL (by omega),FL,Nat.add_zero] at g1;exact ⟨v,g1,g2⟩
theorem fld {fuel:Nat} {t:TypeId} {cs:List Value} {x:DataW H×List MemPlace} {fs:Array Field} (ht:prog.underlying t=some (.struct fs)) (h:DataW.trod enc prog W b9 (fun _=>true) held fuel t cs=some x) {i z:Nat} {f:Field} (hf:fs[i]? = some f) (hz:prog.cellsOf f.type=z) :
  ∃ m y,DataW.trod enc prog W b9 (fun _=>true) held m f.type ((cs.drop f.offset).take z)=some y:=by
 obtain ⟨xs,n,rfl,_,_,hl,h2⟩:=DataW.trod_struct ht h;have:=h2 i f hf;rw [DB (by rw [hl];exact (DT.1 hf).1),hz] at this;exact ⟨_,_,this⟩
theorem iy {fuel:Nat} {t:TypeId} {cs:List Value} {x:DataW H×List MemPlace} {fs:Array Field} (ht:prog.underlying t=some (.struct fs)) (h:DataW.trod enc prog W b9 (fun _=>true) held fuel t cs=some x) {i:Nat} {f:Field} {ks:List Kd} (hf:fs[i]? = some f) (hz:prog.cellsOf f.type=ks.length)
  (R:pQ enc W b9 held f.type ks):Pc ks f.offset cs:=by
 obtain ⟨m,y,e⟩:=fld ht h hf hz;exact R _ _ _ e
theorem sl_of {t e:TypeId} {ks:List Kd} (ht:prog.underlying t=some (.slice e)) (he:prog.cellsOf e=ks.length) (hz:0<ks.length) (R:pQ enc W b9 held e ks) {fuel:Nat} {v:Value} {x:DataW H×List MemPlace}
  (h:DataW.trod enc prog W b9 (fun _=>true) held fuel t [v]=some x):eK (clean W.heap.size v)=false /\ ∃ n cs,SlN (dx W (view W)) ks (clean W.heap.size v) n cs:=by
 have nilT:yE ks 0 []:=⟨by simp,fun i hi=>absurd hi (FP i)⟩
 rcases DataW.trod_slice ht h with ⟨h1,_⟩|⟨a,len,cap,elems,cU,n,_,h1,_,_,hlc,hcm,hl,hel,hsp,_⟩
 ·cases h1;exact ⟨rfl,0,[],none,0,rfl,fun _=>rfl,nilT,fun h=>absurd h (GH 0)⟩
 ·cases h1;rw [he] at hel hsp;have hpos:0<cap->a.spot=none/\a.block<W.heap.size:=by
   intro h0;have key : ∃ cs,W.cells? b9 (a.add (0*ks.length)) ks.length=some cs:=by
    by_cases hlen:0<len
    ·have:=hel 0 hlen;rw [DB (by omega),DZ] at this;obtain ⟨cs,hc,_⟩:=this;exact ⟨cs,hc⟩
    ·have:=(hsp rfl).2 0 (by omega);rw [DB (by rw [(hsp rfl).1];omega),DZ] at this;obtain ⟨cs,hc,_⟩:=this;obtain rfl:len=0:=by omega
     exact ⟨cs,hc⟩
   obtain ⟨cs,hc⟩:=key;obtain ⟨_,hlen,hcell⟩:=World.cells?_some hc;have g:=hcell 0 hz;obtain ⟨c0,hc0⟩ : ∃ c0,cs[0]? = some c0:=⟨cs[0],DB (by omega)⟩
   rw [hc0,GI] at g;have g:W.cell? a=some c0:=g;obtain ⟨e1,e2,_⟩:=vR g;exact ⟨e1,e2⟩
  obtain ⟨g1,a',g2,g3⟩:=wi (W:=W) hlc hpos;refine ⟨g1,len,?_⟩;by_cases h0:len=0
  ·subst h0;exact ⟨[],_,_,g2,fun _=>rfl,nilT,fun h=>absurd h (GH 0)⟩
  have ha:=g3 (by omega);subst ha;have each : ∀ i,i<len -> ∃ k es,view W a'.block=some k/\df ks es /\ ∀ j,j<ks.length->k[a'.off+i*ks.length+j]? = es[j]? := by
   intro i hi;have h2:=hel i hi;rw [DB (by omega),DZ] at h2;obtain ⟨es,hc,ht⟩:=h2;have ty:=R _ _ _ ht;obtain ⟨_,hlen,hcell⟩:=World.cells?_some hc;have vc : ∀ j,j<ks.length -> ∃ k,view W a'.block=some k/\k[a'.off+i*ks.length+j]? = es[j]? := by intro j hj;obtain ⟨u,h3,h4⟩:=ty.2 j _ (DB hj);have g:=hcell j hj;rw [h3] at g;obtain ⟨_,_,k,hk,hc2⟩:=vR g;rw [BD,BD] at hk;rw [add_off,add_off,h4.clean] at hc2;exact ⟨k,hk,by rw [hc2,h3]⟩
   obtain ⟨k,hk,_⟩:=vc 0 hz;refine ⟨k,es,hk,ty,fun j hj => ?_⟩;obtain ⟨k',hk',e⟩:=vc j hj;rw [hk] at hk';cases hk';exact e
  obtain ⟨k,_,hk,_⟩:=each 0 (by omega);have each : ∀ i,i<len -> ∃ es,df ks es /\ ∀ j,j<ks.length->k[a'.off+i*ks.length+j]? = es[j]? := fun i hi=>by obtain ⟨k',es,hk',h1,h2⟩:=each i hi;rw [hk] at hk';cases hk';exact ⟨es,h1,h2⟩
  have hlen:a'.off+len*ks.length<=k.length:=by
   obtain ⟨es,ty,e⟩:=each (len-1) (by omega);have:=e (ks.length-1) (by omega);obtain ⟨u,hu,_⟩:=ty.2 (ks.length-1) _ (DB (by omega));rw [hu] at this;have:=(EV.1 this).1;have h9:len*ks.length=(len-1)*ks.length+ks.length:=by conv=>lhs;rw [show len=(len-1)+1 by omega,HM,JT]
   omega
  refine ⟨(k.drop a'.off).take (len*ks.length),_,_,g2,fun h=>(by cases h),⟨by rw [DV,EB];omega,fun i hi => ?_⟩,fun _=>⟨a'.block,a'.off,a'.spot,k,rfl,by rw [qk];exact hk,hlen,rfl⟩⟩;obtain ⟨es,ty,e⟩:=each i hi;have hm:=Cx (z:=ks.length) hi;have:(((k.drop a'.off).take (len*ks.length)).drop (i*ks.length)).take ks.length=es:=by
   refine FU fun j => ?_;rw [FK];by_cases hj:j<ks.length
   ·rw [DL hj,FL,FK,DL (by omega),FL,<-e j hj,GL]
   ·rw [DM hj,ET (by rw [ty.1];omega)]
  rw [this];exact ty
end
end
end Go.Proofs.YtdnahgfgoajmcaaGreatDoor
namespace Go.Proofs.YtdnahgfgoajmcaaGreatDoor
open Go Go.Abs Tryz
theorem wf_u64 {n:Int} (h:(Lit.int .u64 n).wf=true) : ∃ m:Nat,n=m/\m<18446744073709551616:=by simp [Lit.wf,IntKind.min,IntKind.max,IntKind.signed,IntKind.bits] at h;exact ⟨n.toNat,by omega,by omega⟩
theorem dig_of {xs:List Value} (h:df uh xs) : ∃ l,xs=bn l/\js l:=by
 have hl:xs.length=32:=h.1;have key : ∀ n,n<=32 -> ∃ l:List Nat,xs.take n=bn l/\l.length=n/\BK l:=by
  intro n;induction n with
  |zero=>exact fun _=>⟨[],rfl,rfl,fun x hx=>by cases hx⟩
  |succ n ih=>
   intro hn;obtain ⟨l,h1,h2,h3⟩:=ih (by omega);obtain ⟨m,h4,h5⟩:=CD h (i:=n) (by omega);refine ⟨l ++ [m],?_,by simp [h2],fun x hx => ?_⟩
   ·rw [JI,h1,h4];simp [bn]
   ·rcases DU.1 hx with hx|hx
    ·exact h3 x hx
    ·simp only [FQ,GO,JG] at hx;subst hx;exact h5
 obtain ⟨l,h1,h2,h3⟩:=key 32 (DD _);rw [DX (by omega)] at h1;exact ⟨l,h1,h2,h3⟩
theorem rec_of {xs:List Value} (h:df jO xs) : ∃ r,xs=bW r/\r.Wf:=by obtain ⟨a,o,b,c,d,e,f,g,rfl,ho,ha,wb,wc,wd,wf,wg⟩:=xY h;obtain ⟨l,rfl,hl⟩:=dig_of ho;obtain ⟨c,rfl,hc⟩:=wf_u64 wc;obtain ⟨d,rfl,hd⟩:=wf_u64 wd;exact ⟨⟨a,l,b,c,d,e,f,g⟩,rfl,ha,hl,pG.1 wb,hc,hd,pG.1 wf,pG.1 wg⟩
theorem B0 {ks:List Kd} {α:Type} {f:α->List Value} {P:α->Prop} (hf : ∀ xs,df ks xs -> ∃ a,xs=f a/\P a) : ∀ (n:Nat) (cs:List Value),yE ks n cs -> ∃ l:List α,l.length=n/\cs=l.flatMap f /\ ∀ a∈l,P a
 | 0,cs,h=>⟨[],rfl,by
   have:cs.length=0:=by rw [h.1,GI]
   exact DW.1 this,fun a ha=>by cases ha⟩
 |n+1,cs,h=>by
  have hl:cs.length=(n+1)*ks.length:=h.1;have h0:=h.2 0 (by omega);rw [GI,EP] at h0;obtain ⟨a,ha,pa⟩:=hf _ h0;have hl2:(cs.drop ks.length).length=n*ks.length:=by rw [EB,hl,HM];omega
  obtain ⟨l,q1,q2,q3⟩:=B0 hf n (cs.drop ks.length) ⟨hl2,fun i hi=>by have:=h.2 (i+1) (by omega);rw [FV,show ks.length+i*ks.length=(i+1)*ks.length by rw [HM];omega];exact this⟩
  refine ⟨a::l,by simp [q1],?_,fun b hb => ?_⟩
  ·rw [E6,<-ha,<-q2,FC]
  ·rcases FQ.1 hb with rfl|hb
   ·exact pa
   ·exact q3 b hb
end Go.Proofs.YtdnahgfgoajmcaaGreatDoor
namespace Go.Proofs.YtdnahgfgoajmcaaGreatDoor
open Go Go.Abs Tryz
attribute [local congr] aw
end Go.Proofs.YtdnahgfgoajmcaaGreatDoor
namespace Go.Proofs.YtdnahgfgoajmcaaGreatDoor
open Go Go.Abs Tryz
open Go.ChangeShapes Go.WideShapes Go.ChangeAt Go.RowKit
section
theorem SlN.typed {h:ai} {ks:List Kd} {v:Value} {n:Nat} {cs:List Value} (x:SlN h ks v n cs):yE ks n cs:=by obtain ⟨a,c,rfl,_,h2,_⟩:=x;exact h2
section
variable {H:Type} {enc:TypeId×Value->H} {W:World} {b9:Nat} {held:Bool}
theorem rd5:pQ enc W b9 held 5 [.u8]:=reads_u8 Tryz.underlying5
theorem rd35:pQ enc W b9 held 36 uh:=reads_arr Tryz.underlying36 (by kernel_rfl) (by kernel_rfl) rd5
theorem rd58:pQ enc W b9 held 66 jO:=fun fuel cs x h=>by have p0:Pc [.u8] 0 cs:=iy Tryz.underlying66 h (i:=0) rfl (by kernel_rfl) (reads_u8 Tryz.underlying64);have p1:Pc uh 1 cs:=iy Tryz.underlying66 h (i:=1) rfl (by kernel_rfl) rd35;have p2:Pc [.i .i64] 33 cs:=iy Tryz.underlying66 h (i:=2) rfl (by kernel_rfl) (rn Tryz.underlying3);have p3:Pc [.i .u64] 34 cs:=iy Tryz.underlying66 h (i:=3) rfl (by kernel_rfl) (rn Tryz.underlying32);have p4:Pc [.i .u64] 35 cs:=iy Tryz.underlying66 h (i:=4) rfl (by kernel_rfl) (rn Tryz.underlying32);have p5:Pc [.b] 36 cs:=iy Tryz.underlying66 h (i:=5) rfl (by kernel_rfl) (reads_b Tryz.underlying4);have p6:Pc [.i .i64] 37 cs:=iy Tryz.underlying66 h (i:=6) rfl (by kernel_rfl) (rn Tryz.underlying3);have p7:Pc [.i .i64] 38 cs:=iy Tryz.underlying66 h (i:=7) rfl (by kernel_rfl) (rn Tryz.underlying3);obtain ⟨_,_,_,_,hl,_⟩:=DataW.trod_struct Tryz.underlying66 h;exact (((((((p0.app p1).app p2).app p3).app p4).app p5).app p6).app p7).whole (hl.trans (by kernel_rfl))
end
def litOf {H:Type}:Value->DataW H
 | .int k n => .lit (.int k n)
 |_ => .agg []
theorem litOf_inj {H:Type} {v:Value} {k:IntKind} {n:Int} (h:(litOf v:DataW H) = .lit (.int k n)):v = .int k n:=by
 cases v with
 |int k' n'=>
  have h:(DataW.lit (Lit.int k' n'):DataW H) = .lit (.int k n):=h;have q:=Lit.int.inj (DataW.lit.inj h);rw [q.1,q.2]
 |_=>cases h
theorem sV:bT.length=64:=by kernel_rfl
theorem rounds_ints:(bT.all fun v=>match v with | .int _ _=>true|_=>false)=true:=by kernel_rfl
theorem nice_rounds (n:Nat) : ∀ v∈bT,clean n v=v:=by
 intro v hv;have h:=rounds_ints;rw [DR] at h;have h:=h v hv;cases v with
 |int k m=>exact te rfl
 |_=>cases h
theorem ti (n:Nat):bT.map (clean n)=bT:=by rw [List.map_congr_left (nice_rounds n),List.map_id']
theorem tj {W:World} {fuel:Nat} {cs:List Value} {p:List MemPlace} {d:DataW Unit} (hd:d = .agg (bT.map litOf)) (h:DataW.trod (fun _=>()) prog W 0 (fun _=>true) false fuel 140 cs=some (d,p)):cs=bT:=by
 subst hd;obtain ⟨xs,m,rfl,hx,hl,hxl,hf⟩:=DataW.trod_array Tryz.underlying140 h;have h175:prog.cellsOf 140=64:=by kernel_rfl
 have h174:prog.cellsOf 139=1:=by kernel_rfl
 rw [h175] at hl;have hx:=GM Prod.fst hx;have hx:(DataW.agg (bT.map litOf):DataW Unit) = .agg (xs.map (·.1)):=hx;have hx:=DataW.agg.inj hx;refine FU fun j => ?_;by_cases hj:j<64
 ·have e:=hf j hj;rw [DB (by omega),h174,GF] at e;obtain ⟨n,e1,e2,_⟩:=DataW.trod_int Tryz.underlying139 e;have q:(bT.map (litOf (H:=Unit)))[j]? = (xs.map (·.1))[j]? := by rw [hx]
  rw [EN,EN,DB (by rw [sV];exact hj),DB (by omega),e2] at q;have q:=litOf_inj (H5 q);have e3:((cs.drop j).take 1)[0]? = some (.int .u32 n):=by rw [e1];rfl
  rw [FK,DL (by decide),FL,Nat.add_zero] at e3;rw [e3,DB (by rw [sV];exact hj),q]
 ·rw [ET (by omega),ET (by rw [sV];omega)]
end
end Go.Proofs.YtdnahgfgoajmcaaGreatDoor
namespace Go.Proofs.YtdnahgfgoajmcaaGreatDoor
open Go Go.Abs Tryz
theorem eq35:EqT 36 uh:=by intro xs ys hx hy;obtain ⟨r,h1,h2⟩:=xA (d:=9998) hx hy;exact ⟨r,h1,Cl (by kernel_rfl) (eV hx.all.2.2) (eV hy.all.2.2) h2⟩
theorem add3 {a b:Nat} (h:a+b<=9223372036854775807):aF prog .add 3 (aq a) (.int .i64 (b:Int))=some (aq (a+b)):=by unfold aq;rw [my,wrap_i64 (by omega) (by omega),Int.natCast_add]
theorem dR {a:Nat} (h:a+1<=9223372036854775807):aF prog .add 3 (aq a) (.int .i64 1)=some (aq (a+1)):=add3 h
theorem ie (a b:Nat):aF prog .lss 3 (aq a) (aq b)=some (.bool (decide (a<b))):=by
 rw [bL]
 congr 2
 by_cases e:a<b
 ·rw [DC e,DC (by omega)]
 ·rw [DF e,DF (by omega)]
section
theorem rL.empty (h:ai) {N size b:Nat} (hb:N<=b):rL h N size (.slice (some ⟨b,0,none⟩) 0 0) 0 []:=⟨by simp,rfl,rfl,.inr ⟨b,none,rfl,hb,.inl ⟨rfl,rfl⟩⟩⟩
theorem rL.b9 {h:ai} {N size:Nat} {v:Value} {len:Nat} {cells:List Value} (o:rL h N size v len cells) {b:Nat} (hb:fW v=some b):N<=b:=by
 obtain ⟨_,_,_,⟨rfl,_⟩|⟨b',s,rfl,h5,_⟩⟩:=o
 ·cases hb
 ·cases hb;exact h5
end
section
theorem xv {h:ai} {a:Option Addr} {n c i:Nat} {l:List Nat} (e:ax a n h=some l) (hi:i<n) : ∃ b p,a.map (·.block)=some b/\idxS 1 (.slice a n c) (aq i)=some (ptr b p)/\ld1 (ptr b p) h=some (u8 (l.getD i 0),h):=by obtain ⟨h1,h2,h3⟩:=aH e;obtain ⟨b,off,s,k,rfl,hk,hlen,hc⟩:=h3 (by omega);refine ⟨b,off+i,rfl,?_,aW hk (hc i hi) rfl⟩;unfold idxS;simp only [];rw [DL (by omega),Int.toNat_natCast,GF]
end
section
end
section
theorem is96:cx prog 114 f114:=by constructor<;>kernel_rfl
theorem b96_exit (C:au) (e:aX) (h:ai):b96_4 C 0 e h=k96_2 C e h:=rfl
theorem app_lit {g:ai} {N x:Nat} {v:Value} {l:List Nat} (o:fq g N v l) (h0:g.n0<=N) (hN:N<=g.next) (hx:x<256) (hl:l.length<=1000000) :
  ∃ v' g',appendA 1 1 v (.slice (some ⟨g.next,0,none⟩) 1 1) (g.alloc [u8 x])=some (v',g')/\fq g' N v' (l ++ [x])/\az g g' (fun c=>fW v=some c):=by
 have ka:aE g (g.alloc [u8 x]):=az.alloc _ _ _;obtain ⟨v',g',e1,e2,e3,_⟩:=pM (c:=1) (o.keep ka (fun _ _ h=>h)) (by rw [ka.n0];exact h0) (D7 hN ka.next) (nB g hx) (by omega);exact ⟨v',g',e1,e2,(ka.mono (fun _ _ h=>h.elim)).also e3 (fun _ _ h=>h)⟩
theorem r96 (h:ai) (hG:4<=h.n0) {n k:Nat} (h1:1<=k) (hk:k<=8) (_:n<18446744073709551616) : ∃ v h',CW 114 [.int .u64 (n:Int),aq k] h=some (v,h')/\fq h' h.next v (gz k n)/\aE h h':=by
 have oA:aE h (h.alloc []):=az.alloc _ _ _;have nA:(h.alloc []).next=h.next+1:=ai.cO ..;have own0:fq (h.alloc []) h.next (.slice (some ⟨h.next,0,none⟩) 0 0) []:=⟨rL.empty _ (DD _),by simp⟩
 have hn0:=h.n0_le_next;have hsub:aF prog .sub 3 (aq k) (.int .i64 1)=some (.int .i64 ((k:Int)-1)):=by unfold aq;rw [fE,wrap_i64 (by omega) (by omega)]
 have key : ∀ o,t96 CW (.int .u64 (n:Int)) (aq k) h=o -> ∃ v h',o=some (v,h')/\fq h' h.next v (gz k n)/\aE h h':=by
  intro o ho;subst ho;unfold t96;simp -implicitDefEqProofs only [aj,vJ,hsub,ak];refine bH (n:=24) (fin:=fun ex y g=>ex = .exit 0/\fq g h.next (y 5) (gz k n)/\aE h g) (Q:=fun o:bc => ∃ v h',o=some (v,h')/\fq h' h.next v (gz k n)/\aE h h')
   (bC (wZ CW) (Inv:=fun m y g=>m<=k/\y 0 = .int .u64 (n:Int)/\y 6 = .int .i64 ((m:Int)-1)/\aE h g /\ ∃ cur,fq g h.next (y 5) cur/\cur++gz m n=gz k n) ?_ k (by have:aD=18446744073709551616:=rfl;omega)
    ⟨DD _,rfl,rfl,oA,[],own0,rfl⟩) ?_
  ·rintro m y g ⟨hm,y0,y6,old,cur,own,hcur⟩;have hclen:cur.length+m=k:=by have:=GM List.length hcur;simpa [bR] using this
   unfold oO;simp -implicitDefEqProofs only [y6,aj,bG,ak];by_cases hz:m=0
   ·subst hz;have hd:decide ((((0:Nat):Int)-1)>=0)=false:=by decide
    simp -implicitDefEqProofs only [hd];have:cur=gz k n:=by simpa [gz] using hcur
    exact dJ.out 0 ⟨rfl,this▸own,old⟩
   ·obtain ⟨q,rfl⟩ : ∃ q,m=q+1:=⟨m-1,by omega⟩
    have hd:decide ((((q+1:Nat):Int)-1)>=0)=true:=DC (by omega);have hcu:IntKind.wrap .u64 (((q+1:Nat):Int)-1)=((q:Nat):Int):=by rw [wrap_u64 (by omega) (by omega)];omega
    have hm8:aF prog .mul 120 (.int .u64 8) (.int .u64 ((q:Nat):Int))=some (.int .u64 ((8*q:Nat):Int)):=by rw [jn,wrap_u64 (by omega) (by omega)];exact GM (fun z=>some (Value.int .u64 z)) (by omega)
    have hsh:aF prog .shr 32 (.int .u64 (n:Int)) (.int .u64 ((8*q:Nat):Int))=some (.int .u64 ((n/256^q:Nat):Int)):=by rw [eQ prog 32 (k := .u64) (k' := .u64) (b:=8*q) (by show 8*q<=64;omega)];rw [show (2:Nat)^(8*q)=256^q by rw [Nat.pow_mul]]
    have hcv:IntKind.wrap .u8 ((n/256^q:Nat):Int)=((n/256^q%256:Nat):Int):=by rw [gG];omega
    have hlt8:n/256^q%256<256:=HN _ (by decide);generalize hx:n/256^q%256=x at *;obtain ⟨v',g',e1,e2,e3⟩:=app_lit own (by rw [old.n0];exact hn0) old.next hlt8 (by omega);have hsub2:aF prog .sub 3 (.int .i64 (((q+1:Nat):Int)-1)) (.int .i64 1)=some (.int .i64 ((q:Int)-1)):=by rw [fE,wrap_i64 (by omega) (by omega)];exact GM (fun z=>some (Value.int .i64 z)) (by omega)
    simp -implicitDefEqProofs only [hd,y0,aj,ak,eh,hcu,hm8,hsh,hcv];rw [show (Value.int .u8 (x:Int))=u8 x from rfl,vA];simp -implicitDefEqProofs only [aj,e1,hsub2,ak];refine dJ.next q (by omega) ⟨by omega,y0,rfl,old.also e3 (fun c hc hb=>by have:=own.own.b9 hb;omega),cur ++ [x],e2,?_⟩;rw [<-hcur,gz,hx,ER];rfl
  ·rintro ex z g ⟨rfl,own,old⟩;simp -implicitDefEqProofs only [bk,b96_exit,t96k96_2_eq];unfold zO;exact ⟨_,g,rfl,own,old⟩
 obtain ⟨v,h',e,o⟩:=key _ rfl;exact ⟨v,h',aL is96 hG rfl ((t96_eq _ _ _ _).trans e),o⟩
end
end Go.Proofs.YtdnahgfgoajmcaaGreatDoor
namespace Go.Proofs.YtdnahgfgoajmcaaGreatDoor
open Go Go.Abs Tryz
attribute [local congr] aw
end Go.Proofs.YtdnahgfgoajmcaaGreatDoor
namespace Go.Proofs.YtdnahgfgoajmcaaGreatDoor
open Go Go.Abs Tryz
end Go.Proofs.YtdnahgfgoajmcaaGreatDoor
namespace Go.Proofs.YtdnahgfgoajmcaaGreatDoor
open Go Go.Abs Tryz
attribute [local congr] aw
def GZ (h:ai):Prop:=h.get 0=some (bn z32)
theorem GZ.old {h h':ai} (x:GZ h) (o:aE h h'):GZ h':=aE.get o x
theorem GZ.ld {h:ai} (x:GZ h):du 32 (ptr 0 0) h=some (.agg (bn z32).toArray,h):=bj x rfl (De _).1
def mL (r:av):Bool:=decide (r.aU>=0)&&decide (r.aU<=15)&&decide ((r.ja:Int)>=1)
def wE (r:av):Bool:=((r.qP:Int)==0)&&(!r.held)&&(r.k==0)&&(r.n==0)
theorem person_seg {h:ai} {b:Nat} {r:av} (A:RLd h b r) (K:Value->ai->bc) :
 (
 af (pu (aP (ptr b 0) 33) h) fun y5 h=>
 af (ld1 y5 h) fun y6 h=>
 af (pu (aF prog .geq 3 y6 (.int .i64 0)) h) fun y7 h=>
 af (some (y7,h)) fun y8 h=>
 af (ay (cn y8==some true) (pu (aP (ptr b 0) 33) h) h) fun y9 h=>
 af (ay (cn y8==some true) (ld1 y9 h) h) fun y10 h=>
 af (ay (cn y8==some true) (pu (aF prog .leq 3 y10 (.int .i64 15)) h) h) fun y11 h=>
 af (match y8 with | .bool t=>some (if t then y11 else (.bool false),h)|_=>none) fun y12 h=>
 af (some (y12,h)) fun y13 h=>
 af (ay (cn y13==some true) (pu (aP (ptr b 0) 34) h) h) fun y14 h=>
 af (ay (cn y13==some true) (ld1 y14 h) h) fun y15 h=>
 af (ay (cn y13==some true) (pu (aF prog .geq 32 y15 (.int .u64 1)) h) h) fun y16 h=>
 af (match y13 with | .bool t=>some (if t then y16 else (.bool false),h)|_=>none) fun y17 h=>
 af (some (y17,h)) fun y3 h=>
 K y3 h)=K (.bool (mL r)) h:=by
 unfold mL;cases q0:decide (r.aU>=0) with
 |false=>simp -implicitDefEqProofs only [A.l33, aj, ak, bB, fs, aG, DG, EF, aB, DH, bG, q0, EG]
 |true=>
 cases q1:decide (r.aU<=15) with
 |false=>simp -implicitDefEqProofs only [A.l33, aj, ak, bB, fs, EC, aC, aG, DG, EF, EA, aB, DH, bG, bU, q0, q1, ES, EG]
 |true=>
 cases q2:decide ((r.ja:Int)>=1) with
 |false=>simp -implicitDefEqProofs only [A.l33, A.l34, aj, ak, bB, EC, aC, EA, aB, DH, bG, bU, q0, q1, q2, D9, ES]
 |true=>
 simp -implicitDefEqProofs only [A.l33, A.l34, aj, ak, bB, EC, aC, EA, aB, DH, bG, bU, q0, q1, q2, D9]
theorem bare_seg {h:ai} {b:Nat} {r:av} (A:RLd h b r) (K:Value->ai->bc) :
 (
 af (pu (aP (ptr b 0) 35) h) fun y18 h=>
 af (ld1 y18 h) fun y19 h=>
 af (pu (aF prog .eql 32 y19 (.int .u64 0)) h) fun y20 h=>
 af (some (y20,h)) fun y21 h=>
 af (ay (cn y21==some true) (pu (aP (ptr b 0) 36) h) h) fun y22 h=>
 af (ay (cn y21==some true) (ld1 y22 h) h) fun y23 h=>
 af (ay (cn y21==some true) (pu (unA .not y23) h) h) fun y24 h=>
 af (match y21 with | .bool t=>some (if t then y24 else (.bool false),h)|_=>none) fun y25 h=>
 af (some (y25,h)) fun y26 h=>
 af (ay (cn y26==some true) (pu (aP (ptr b 0) 37) h) h) fun y27 h=>
 af (ay (cn y26==some true) (ld1 y27 h) h) fun y28 h=>
 af (ay (cn y26==some true) (pu (aF prog .eql 3 y28 (.int .i64 0)) h) h) fun y29 h=>
 af (match y26 with | .bool t=>some (if t then y29 else (.bool false),h)|_=>none) fun y30 h=>
 af (some (y30,h)) fun y31 h=>
 af (ay (cn y31==some true) (pu (aP (ptr b 0) 38) h) h) fun y32 h=>
 af (ay (cn y31==some true) (ld1 y32 h) h) fun y33 h=>
 af (ay (cn y31==some true) (pu (aF prog .eql 3 y33 (.int .i64 0)) h) h) fun y34 h=>
 af (match y31 with | .bool t=>some (if t then y34 else (.bool false),h)|_=>none) fun y35 h=>
 af (some (y35,h)) fun y4 h=>
 K y4 h)=K (.bool (wE r)) h:=by
 unfold wE;cases q0:((r.qP:Int)==0) with
 |false=>simp -implicitDefEqProofs only [A.l35, aj, ak, bB, fs, aG, DG, EF, aB, DH, bF, q0, EG]
 |true=>
 cases q1:(!r.held) with
 |false=>simp -implicitDefEqProofs only [A.l35, A.l36, aj, ak, bB, fs, EC, aC, aG, DG, EF, EA, aB, DH, aV, bF, q0, q1, ES, EG]
 |true=>
 cases q2:(r.k==0) with
 |false=>simp -implicitDefEqProofs only [A.l35, A.l36, A.l37, aj, ak, bB, fs, EC, aC, aG, DG, EF, EA, aB, DH, aV, bF, q0, q1, q2, D9, ES, EG]
 |true=>
 cases q3:(r.n==0) with
 |false=>simp -implicitDefEqProofs only [A.l35, A.l36, A.l37, A.l38, aj, ak, bB, EC, aC, EA, aB, DH, aV, bF, q0, q1, q2, q3, D9, ES]
 |true=>
 simp -implicitDefEqProofs only [A.l35, A.l36, A.l37, A.l38, aj, ak, bB, EC, aC, EA, aB, DH, aV, bF, q0, q1, q2, q3, D9]
def recR (r:av):Bool:=if (r.kind:Int)==1 then mL r&&wE r&&decide (r.obj=z32) else if (r.kind:Int)==2 then wE r&&(r.aU==0)&&((r.ja:Int)==0) else if (r.kind:Int)==3 then mL r&&decide ((r.qP:Int)>=1)&&decide (1<=r.k)&&decide (r.k<=r.n)&&decide (r.n<=255) else false
theorem AI (r:av):mL r=kH r:=by
 unfold mL kH
 congr 2
 exact JC.2 (by omega)
theorem Bh (r:av):wE r=true↔r.qP=0/\r.held=false/\r.k=0/\r.n=0:=by
 unfold wE;simp only [DK,beq_iff_eq,FW];constructor
 ·rintro ⟨⟨⟨h1,h2⟩,h3⟩,h4⟩;exact ⟨by omega,h2,h3,h4⟩
 ·rintro ⟨h1,h2,h3,h4⟩;exact ⟨⟨⟨by omega,h2⟩,h3⟩,h4⟩
theorem recR_eq (r:av):recR r=dX r:=by
 unfold recR dX Ae;rw [AI];split
 ·rw [IT];simp only [DK,DS,Bh];constructor
  ·rintro ⟨⟨h1,h2,h3,h4,h5⟩,h6⟩;refine ⟨?_,h1⟩;unfold av.b9 av.z;exact av.ext rfl h6 rfl rfl h2 h3 h4 h5
  ·rintro ⟨h1,h2⟩;refine ⟨⟨h2,?_⟩,?_⟩
   ·rw [h1];exact ⟨rfl,rfl,rfl,rfl⟩
   ·rw [h1];rfl
 split
 ·rw [IT];simp only [DK,DS,Bh,beq_iff_eq];constructor
  ·rintro ⟨⟨⟨h2,h3,h4,h5⟩,h6⟩,h7⟩;unfold av.grave av.z;exact av.ext rfl rfl h6 (by show r.ja=0;omega) h2 h3 h4 h5
  ·intro h1;refine ⟨⟨?_,?_⟩,?_⟩
   ·rw [h1];exact ⟨rfl,rfl,rfl,rfl⟩
   ·rw [h1];rfl
   ·rw [h1];rfl
 ·rfl
theorem is48:cx prog 36 f36:=by constructor<;>kernel_rfl
set_option maxRecDepth 100000 in
theorem r48 {h:ai} (hG:4<=h.n0) (hz:GZ h) {r:av} (w:r.Wf) : ∃ h',CW 36 [.agg (bW r).toArray] h=some (.bool (dX r),h')/\aE h h':=by
 obtain ⟨h1,b1,o1,A⟩:=xH h w;have z1:=(hz.old o1).ld;obtain ⟨q,hq,e28,_⟩:=eq35 (bn r.obj) (bn z32) (dK w.obj) (dK vG);have hq:q=decide (r.obj=z32):=by
  by_cases e:r.obj=z32
  ·rw [DC e,hq.2 (by rw [e])]
  ·rw [DF e];cases q with
   |false=>rfl
   |true=>exact absurd (xl (hq.1 rfl)) e
 rw [hq] at e28;refine ⟨h1,aL is48 hG rfl ((t48_eq _ _ _).trans ?_),o1⟩;rw [<-recR_eq];unfold t48;rw [b1,aj,aj];refine (person_seg A _).trans ?_;refine (bare_seg A _).trans ?_;unfold recR;cases k1:(r.kind:Int)==1 with
 |true=>
  rw [DL rfl];cases q0:mL r with
  |false=>simp -implicitDefEqProofs only [A.l0, k1, aj, ak, bB, fs, aG, DG, EF, aB, DH, bF, EG]
  |true=>
  cases q1:wE r with
  |false=>simp -implicitDefEqProofs only [A.l0, k1, aj, ak, bB, fs, EC, aC, aG, DG, EF, EA, aB, DH, bF, ES, EG]
  |true=>
  simp -implicitDefEqProofs only [A.l0, A.l1, k1, z1, e28, aj, ak, bB, EC, aC, EA, aB, DH, bF, D9, EM]
 |false=>
 rw [DM (by decide)];cases k2:(r.kind:Int)==2 with
 |true=>
  rw [DL rfl];cases q0:wE r with
  |false=>simp -implicitDefEqProofs only [A.l0, k1, k2, aj, ak, bB, fs, aG, DG, EF, aB, DH, bF, EG]
  |true=>
  cases q1:(r.aU==0) with
  |false=>simp -implicitDefEqProofs only [A.l0, A.l33, k1, k2, aj, ak, bB, fs, EC, aC, aG, DG, EF, EA, aB, DH, bF, q1, ES, EG]
  |true=>
  simp -implicitDefEqProofs only [A.l0, A.l33, A.l34, k1, k2, aj, ak, bB, EC, aC, EA, aB, DH, bF, q1, D9, EM]
 |false=>
 rw [DM (by decide)];cases k3:(r.kind:Int)==3 with
 |true=>
  rw [DL rfl];cases q0:mL r with
  |false=>simp -implicitDefEqProofs only [A.l0, k1, k2, k3, aj, ak, bB, fs, aG, DG, EF, aB, DH, bF, EG]
  |true=>
  cases q1:decide ((r.qP:Int)>=1) with
  |false=>simp -implicitDefEqProofs only [A.l0, A.l35, k1, k2, k3, aj, ak, bB, fs, EC, aC, aG, DG, EF, EA, aB, DH, bG, bF, q1, ES, EG]
  |true=>
  cases q2:decide (1<=r.k) with
  |false=>simp -implicitDefEqProofs only [A.l0, A.l35, A.l37, k1, k2, k3, aj, ak, bB, fs, EC, aC, aG, DG, EF, EA, aB, DH, bG, bU, bF, q1, q2, D9, ES, EG]
  |true=>
  cases q3:decide (r.k<=r.n) with
  |false=>simp -implicitDefEqProofs only [A.l0, A.l35, A.l37, A.l38, k1, k2, k3, aj, ak, bB, fs, EC, aC, aG, DG, EF, EA, aB, DH, bG, bU, bF, q1, q2, q3, D9, ES, EG]
  |true=>
  cases q4:decide (r.n<=255) with
  |false=>simp -implicitDefEqProofs only [A.l0, A.l35, A.l37, A.l38, k1, k2, k3, aj, ak, bB, EC, aC, EA, aB, DH, bG, bU, bF, q1, q2, q3, q4, D9, ES]
  |true=>
  simp -implicitDefEqProofs only [A.l0, A.l35, A.l37, A.l38, k1, k2, k3, aj, ak, bB, EC, aC, EA, aB, DH, bG, bU, bF, q1, q2, q3, q4, D9]
 |false=>
 rw [DM (by decide)];simp -implicitDefEqProofs only [A.l0, k1, k2, k3, aj, ak, bB, aB, DH, bF]
section
theorem CB (k:IntKind) (n:Int) (h:ai):cq true (some (.int k n,h)) (.int k n)=true:=by simp [cq,same,rD]
section
variable {h h1:ai} {a:Option Addr} {n c:Nat} {l:List Nat} {y:Nat->Value}
end
end
theorem bytesL (h:ai) {l:List Nat} (hb:BK l):ax (some ⟨h.next,0,none⟩) l.length (h.alloc (bn l))=some l:=by have:=dq (h:=h.alloc (bn l)) (b:=h.next) (off:=0) (n:=l.length) (s:=none) (l:=l) (by rw [ai.aN,DL rfl]) (by simp) hb;rw [this,EP,DX (DD _)]
theorem fq.weak {h:ai} {N M:Nat} {v:Value} {l:List Nat} (o:fq h N v l) (hM:M<=N):fq h M v l:=by
 obtain ⟨⟨h1,h2,h3,h4⟩,hb⟩:=o;refine ⟨⟨h1,h2,h3,?_⟩,hb⟩;rcases h4 with h4|⟨b,s,e,h5,h6⟩
 ·exact .inl h4
 ·exact .inr ⟨b,s,e,by omega,h6⟩
theorem sn {h:ai} {b off n k c:Nat} {a:Option Addr} {l m:List Nat} (hl:ax (some ⟨b,off,none⟩) n h=some l) (hm:ax a k h=some m) (hk:0<k) (hb:n+k<=100000000) :
  ∃ v' h',appendA 1 1 (.slice (some ⟨b,off,none⟩) n n) (.slice a k c) h=some (v',h')/\fq h' h.next v' (l++m)/\aE h h':=by
 obtain ⟨l1,lb,_⟩:=aH hl;obtain ⟨m1,mb,_⟩:=aH hm;have f1:=jN hl (DD n) (c:=n);rw [DX (by omega)] at f1;have f2:=jN hm (DD k) (c:=c);rw [DX (by omega)] at f2;refine ⟨.slice (some ⟨h.next,0,some 1⟩) (n+k) (n+k),h.alloc (bn l++bn m),?_,⟨⟨?_,?_,?_,.inr ⟨h.next,some 1,?_,DD _,.inr ⟨rfl,?_⟩⟩⟩,?_⟩,az.alloc _ _ _⟩
 ·unfold appendA;simp only [show ik (.slice a k c)=some k from rfl,f1,f2];have c1:((!(aM (m.map u8)) || !(decide ((n+k)*1<=140737488355328)) || !(decide (n+k<=4611686018427387904))||decide ((m.map u8).length≠k*1))=true)↔False:=by rw [p8,DC (by omega),DC (by omega),DF (by simp;omega)];simp
  rw [DM (by rw [c1];exact id),DM (by omega),DM (by simp;omega)]
 ·simp
 ·rw [FH];exact jr _ _ (gT _) (gT _)
 ·rw [FH];exact iE _ _ (p8 _) (p8 _)
 ·rw [DE,l1,m1]
 ·rw [ai.aN,DL rfl,FH]
 ·intro x hx;rcases DU.1 hx with hx|hx
  ·exact lb x hx
  ·exact mb x hx
theorem zF {h0 g:ai} {v:Value} {l m:List Nat} {a:Option Addr} {n c:Nat} (K:aE h0 g) (o:fq g h0.next v l) (hm:ax a n g=some m) (hb:l.length+n<=100000000) : ∃ v' g2,appendA 1 1 v (.slice a n c) g=some (v',g2)/\fq g2 h0.next v' (l++m)/\aE h0 g2:=by obtain ⟨v',g2,e1,e2,k,_⟩:=pM o (by rw [K.n0];exact h0.n0_le_next) K.next hm hb (c:=c);exact ⟨v',g2,e1,e2,K.also k (fun d hd e=>by have:=o.own.b9 e;omega)⟩
theorem app_own {h0 g g1:ai} {v w:Value} {l m:List Nat} {N:Nat} (K:aE h0 g) (o:fq g h0.next v l) (o1:aE g g1) (ow:fq g1 N w m) (hb:l.length+m.length<=100000000) : ∃ v' g2,appendA 1 1 v w g1=some (v',g2)/\fq g2 h0.next v' (l++m)/\aE h0 g2:=by obtain ⟨a,c,rfl,s,_,_⟩:=ow.bytes;exact zF (K.trans o1) (o.keep o1 (fun _ _ h=>h)) s hb
theorem xK {h0 g:ai} {v:Value} {l:List Nat} {x:Nat} (K:aE h0 g) (o:fq g h0.next v l) (hx:x<256) (hb:l.length+1<=100000000) : ∃ v' g2,appendA 1 1 v (.slice (some ⟨g.next,0,none⟩) 1 1) (g.alloc [u8 x])=some (v',g2)/\fq g2 h0.next v' (l ++ [x])/\aE h0 g2:=by have ka:aE g (g.alloc [u8 x]):=az.alloc _ _ _;exact zF (c:=1) (K.trans ka) (o.keep ka (fun _ _ h=>h)) (nB g hx) hb
theorem beB1 {x:Nat} (h:x<256):gz 1 x = [x]:=by simp [gz,GX h]
theorem is46:cx prog 94 f94:=by constructor<;>kernel_rfl
theorem is97:cx prog 115 f115:=by constructor<;>kernel_rfl
theorem r97 {h:ai} (hG:4<=h.n0) (b:Bool):CW 115 [.bool b] h=some (.int .u64 ((bit b:Nat):Int),h):=by refine aL is97 hG rfl ((t97_eq _ _ _).trans ?_);unfold t97;cases b<;>rfl
theorem cv8i (k:IntKind) (x:Int) (h:ai):lW .u8 (.int k x) h=some (u8 (i8 x),h):=by rw [eh,CL]
theorem chkU (x:Nat) (h:ai):cq true (some (u8 x,h)) (u8 x)=true:=CB .u8 _ _
theorem enc3 (a b c:Nat) (ha:a<256) (hb:b<256) (hc:c<256):gz 1 a++(gz 1 b++gz 1 c) = [a,b,c]:=by rw [beB1 ha,beB1 hb,beB1 hc];rfl
theorem bsl3 (h:ai) (x y z:Nat):dg 1 (.int .u8 0) 3 [(0,u8 x),(1,u8 y),(2,u8 z)] h=some (.slice (some ⟨h.next,0,none⟩) 3 3,h.alloc (bn [x,y,z])):=rfl
set_option maxRecDepth 100000 in
theorem r46 {h:ai} (hG:4<=h.n0) (hz:GZ h) {r:av} (w:r.Wf) (hv:dX r=true) : ∃ v h',CW 94 [.agg (bW r).toArray] h=some (.tuple #[v,.int .i64 0],h')/\fq h' h.next v (kr r)/\aE h h':=by
 have cr:=aQ w;have b1:box (.agg (bW r).toArray) h=some (ptr h.next 0,h.alloc (bW r)):=fj h _ cr.2.2;have o1:aE h (h.alloc (bW r)):=az.alloc _ _ _;have g1:(h.alloc (bW r)).get h.next=some (bW r):=by rw [ai.aN,DL rfl]
 have n1:(h.alloc (bW r)).next=h.next+1:=ai.cO ..;generalize h.alloc (bW r)=h1 at *;have L : ∀ g,aE h1 g->RLd g h.next r:=fun g o=>mo w (aE.get o g1);have A1:=L h1 (az.refl _ _);obtain ⟨h2,e2,o2⟩:=r48 (h:=h1) (by rw [o1.n0];exact hG) (hz.old o1) w;rw [hv] at e2;have A2:=L h2 o2;have O2:=o1.trans o2;have ha:=Bz h.next 1;have hs2 : ∀ g,aE h1 g->ax (some ⟨h.next,1,none⟩) 32 g=some r.obj:=fun g o=>by have:=jf (s:=none) (aE.get o g1) (show bW r = [.int .u8 (r.kind:Int)]++(bn r.obj ++ [.int .i64 r.aU,.int .u64 (r.ja:Int),.int .u64 (r.qP:Int),.bool r.held,.int .i64 r.k,.int .i64 r.n]) from rfl) rfl w.obj.2;rw [w.obj.1] at this;exact this
 have b3:=vA h2 r.kind;have ka:aE h2 (h2.alloc [u8 r.kind]):=az.alloc _ _ _;obtain ⟨v4,h4,e4,O4,k4⟩:=sn (c:=32) (nB h2 w.kind) (hs2 _ (o2.trans ka)) (by decide) (by decide);have K4:=(o2.trans ka).trans k4;have O4:=O4.weak (M:=h1.next) (D7 o2.next ka.next);have A4:=L h4 K4;have cv1:=cv8i .i64 r.aU h4;have b5:=vA h4 (i8 r.aU);obtain ⟨v5,h5,e5,O5,K5⟩:=xK (h0:=h1) K4 O4 (qH r.aU) (by simp [w.obj.1]);have A5:=L h5 K5;have G5:4<=h5.n0:=by rw [K5.n0,o1.n0];exact hG
 obtain ⟨w6,h6,e6,W6,k6⟩:=r96 h5 G5 (n:=r.ja) (k:=8) (by decide) (by decide) w.ja;have e6:CW 114 [.int .u64 (r.ja:Int),.int .i64 8] h5=_:=e6;obtain ⟨v7,h7,e7,O7,K7⟩:=app_own K5 O5 k6 W6 (by simp [w.obj.1,bR]);have A6:=L h6 (K5.trans k6);have A7:=L h7 K7;have G7:4<=h7.n0:=by rw [K7.n0,o1.n0];exact hG
 obtain ⟨w8,h8,e8,W8,k8⟩:=r96 h7 G7 (n:=r.qP) (k:=8) (by decide) (by decide) w.qP;have e8:CW 114 [.int .u64 (r.qP:Int),.int .i64 8] h7=_:=e8;obtain ⟨v9,h9,e9,O9,K9⟩:=app_own K7 O7 k8 W8 (by simp [w.obj.1,bR]);have A9:=L h9 K9;have G9:4<=h9.n0:=by rw [K9.n0,o1.n0];exact hG
 have e10:=r97 G9 r.held;have hbit:=bit_lt r.held;have cvb:lW .u8 (.int .u64 ((bit r.held:Nat):Int)) h9=some (u8 (bit r.held),h9):=by rw [eh,wrap_u8 (by omega) (by omega)]
 have cvk:=cv8i .i64 r.k h9;have cvn:=cv8i .i64 r.n h9;have b11:=bsl3 h9 (bit r.held) (i8 r.k) (i8 r.n);have ka9:aE h9 (h9.alloc (bn [bit r.held,i8 r.k,i8 r.n])):=az.alloc _ _ _;have hb3:BK [bit r.held,i8 r.k,i8 r.n]:=fun x hx=>by
  simp only [FQ,GO,JG] at hx;rcases hx with rfl|rfl|rfl
  ·omega
  ·exact qH _
  ·exact qH _
 obtain ⟨v12,h12,e12,O12,K12⟩:=zF (c:=3) (K9.trans ka9) (O9.keep ka9 (fun _ _ h=>h)) (bytesL h9 hb3) (by simp [w.obj.1,bR]);have e12:appendA 1 1 v9 (.slice (some ⟨h9.next,0,none⟩) 3 3) (h9.alloc (bn [bit r.held,i8 r.k,i8 r.n]))=some (v12,h12):=e12;have cku1:=chkU (i8 r.k) h9;have cku2:=chkU (i8 r.n) h9;refine ⟨v12,h12,aL is46 hG rfl ((t46_eq _ _ _).trans ?_),?_,o1.trans K12⟩
 ·unfold t46;simp -implicitDefEqProofs only [b1, A1.all, e2, A2.l0, ha, b3, e4, A4.l33, cv1, b5, e5, A5.l34, e6, e7, A7.l35, A5.l35, A6.l35, e8, e9, A9.l36, e10, cvb, A9.l37, A9.l38, cvk, cvn, b11, e12, CB, cku1, cku2, aj, ak, DP, aV, D9, GK, aB, DH]
 ·have O12:=O12.weak (M:=h.next) (by omega);have ee:kr r=((((([r.kind]++r.obj) ++ [i8 r.aU])++gz 8 r.ja)++gz 8 r.qP) ++ [bit r.held,i8 r.k,i8 r.n]):=by unfold kr;rw [beB1 w.kind,beB1 (qH _),enc3 _ _ _ (by omega) (qH _) (qH _)];simp only [ER]
  rw [ee];exact O12
def dI (r:av):List Nat := [r.kind]++r.obj ++ [i8 r.aU]
theorem uv {r:av} (w:r.Wf):(dI r).length=34:=by unfold dI;simp [w.obj.1]
theorem yN {r:av} (w:r.Wf):BK (dI r):=by
 intro x hx;unfold dI at hx;simp only [DU,FQ,GO,JG] at hx;rcases hx with (rfl|hx)|rfl
 ·exact w.kind
 ·exact w.obj.2 x hx
 ·exact qH _
theorem obj_sl {g:ai} {b:Nat} {r:av} (w:r.Wf) (g1:g.get b=some (bW r)):ax (some ⟨b,1,none⟩) 32 g=some r.obj:=by have:=jf (s:=none) g1 (show bW r = [.int .u8 (r.kind:Int)]++(bn r.obj ++ [.int .i64 r.aU,.int .u64 (r.ja:Int),.int .u64 (r.qP:Int),.bool r.held,.int .i64 r.k,.int .i64 r.n]) from rfl) rfl w.obj.2;rw [w.obj.1] at this;exact this
theorem is67:cx prog 52 f52:=by constructor<;>kernel_rfl
theorem is27:cx prog 63 f63:=by constructor<;>kernel_rfl
theorem Cn {h:ai} {b len cap n c:Nat} {s:Option Nat} {a:Option Addr} {A B C:List Value} {l:List Nat} (g:h.get b=some (A++(B++C))) (h0:h.n0<=b) (hA:A.length=len) (hB:B.length=n) (hs:ax a n h=some l) (hn:0<n) (hc:len+n<=cap) (hk:len+n<=1000000) :
  ∃ g',appendA 1 1 (.slice (some ⟨b,0,s⟩) len cap) (.slice a n c) h=some (.slice (some ⟨b,0,s⟩) (len+n) cap,g')/\az h g' (· = b)/\g'.get b=some (A++(bn l++C))/\g'.next=h.next:=by
 obtain ⟨hl,hb,_⟩:=aH hs;have hf:=jN hs (DD n) (c:=c);rw [DX (by omega)] at hf;have hsp:splice (A++(B++C)) len (bn l)=A++(bn l++C):=mf hA hB (by rw [DY];exact hl);refine ⟨h.set b (A++(bn l++C)),?_,az.set h0 g (.inr rfl),ai.dZ h0 g _,rfl⟩;unfold appendA;simp only [ik,hf];have c1:(!(aM (l.map u8)) || !(decide ((len+n)*1<=140737488355328)) || !(decide (len+n<=4611686018427387904))||decide ((l.map u8).length≠n*1))=false:=by rw [p8,DC (by omega),DC (by omega),DF (by simp;omega)];rfl
 rw [DM (by rw [c1];decide),DL hc,DM (by omega)];unfold stL;rw [DH,GF];simp only [g];rw [DL (by
  have h1:len+(bn l).length<=(A++(B++C)).length:=by rw [DE,DE,DY,hA,hB];omega
  simp only [DC h0,DC h1,(De l).2,GK]),hsp]
 rfl
set_option maxRecDepth 100000 in
theorem r67 {h:ai} (hG:4<=h.n0) {r:av} (w:r.Wf) : ∃ a c h',CW 52 [.agg (bW r).toArray] h=some (.slice a 34 c,h')/\ax a 34 h'=some (dI r)/\aE h h':=by
 obtain ⟨h1,b1,o1,g1,n1⟩:=dS h w;have m4:mkR 1 1 (.int .u8 0) (.int .i64 0) (.int .i64 34) h1=some (.slice (some ⟨h1.next,0,none⟩) 0 34,h1.alloc (dj [.int .u8 0] 34)):=rfl;have o2:aE h1 (h1.alloc (dj [.int .u8 0] 34)):=az.alloc _ _ _;have g2:(h1.alloc (dj [.int .u8 0] 34)).get h1.next=some ([]++([.int .u8 0]++(List.replicate 33 (.int .u8 0)))):=by rw [ai.aN,DL rfl];rfl
 have n2:(h1.alloc (dj [.int .u8 0] 34)).next=h1.next+1:=ai.cO ..;generalize h1.alloc (dj [.int .u8 0] 34)=h2 at *;have G2:=aE.get o2 g1;have A2:=mo w G2;have b3:=vA h2 r.kind;have o3:aE h2 (h2.alloc [u8 r.kind]):=az.alloc _ _ _;have s3:=nB h2 w.kind;have n3:(h2.alloc [u8 r.kind]).next=h2.next+1:=ai.cO ..;generalize h2.alloc [u8 r.kind]=h3 at *;have p1:h2.n0<=h1.next:=by rw [o2.n0];exact h1.n0_le_next
 have p3:h3.n0<=h1.next:=by rw [o3.n0];exact p1
 obtain ⟨h4,e4,k4,g4,n4⟩:=Cn (cap:=34) (s:=none) (c:=1) (len:=0) (aE.get o3 g2) p3 rfl rfl s3 (by decide) (by decide) (by decide);have hne : ¬(h.next=h1.next):=by omega
 have G4:h4.get h.next=some (bW r):=az.getE k4 (aE.get o3 G2) hne;have A4:=mo w G4;have ha:=Bz h.next 1;have p4:h4.n0<=h1.next:=by rw [k4.n0];exact p3
 have g4:h4.get h1.next=some (bn [r.kind]++(List.replicate 32 (.int .u8 0) ++ [.int .u8 0])):=g4.trans rfl;obtain ⟨h5,e5,k5,g5,n5⟩:=Cn (cap:=34) (s:=none) (c:=32) (len:=1) g4 p4 rfl rfl (obj_sl w G4) (by decide) (by decide) (by decide);have G5:h5.get h.next=some (bW r):=az.getE k5 G4 hne;have A5:=mo w G5;have cv1:=cv8i .i64 r.aU h5;have b6:=vA h5 (i8 r.aU);have o6:aE h5 (h5.alloc [u8 (i8 r.aU)]):=az.alloc _ _ _;have s6:=nB h5 (qH r.aU);generalize h5.alloc [u8 (i8 r.aU)]=h6 at *;have p6:h6.n0<=h1.next:=by rw [o6.n0,k5.n0];exact p4
 have g5:h5.get h1.next=some ((bn [r.kind]++bn r.obj)++([.int .u8 0] ++ [])):=by rw [g5];simp
 obtain ⟨h7,e7,k7,g7,n7⟩:=Cn (cap:=34) (s:=none) (c:=1) (len:=33) (aE.get o6 g5) p6 (by simp [w.obj.1]) rfl s6 (by decide) (by decide) (by decide);have O3:aE h h3:=(o1.trans o2).trans o3;have hd:h.next<=h1.next:=by omega
 have O4:aE h h4:=aE.bK O3 k4 hd;have O5:aE h h5:=aE.bK O4 k5 hd;have O7:aE h h7:=aE.bK (O5.trans o6) k7 hd;have g7:h7.get h1.next=some (bn (dI r)):=by rw [g7];simp [dI]
 refine ⟨some ⟨h1.next,0,none⟩,34,h7,aL is67 hG rfl ((t67_eq _ _ _).trans ?_),?_,O7⟩
 ·unfold t67;have e4:appendA 1 1 (.slice (some ⟨h1.next,0,none⟩) 0 34) (.slice (some ⟨h2.next,0,none⟩) 1 1) h3=some (.slice (some ⟨h1.next,0,none⟩) 1 34,h4):=e4;have e5:appendA 1 1 (.slice (some ⟨h1.next,0,none⟩) 1 34) (.slice (some ⟨h.next,1,none⟩) 32 32) h4=some (.slice (some ⟨h1.next,0,none⟩) 33 34,h5):=e5;have e7:appendA 1 1 (.slice (some ⟨h1.next,0,none⟩) 33 34) (.slice (some ⟨h5.next,0,none⟩) 1 1) h6=some (.slice (some ⟨h1.next,0,none⟩) 34 34,h7):=e7;simp -implicitDefEqProofs only [b1, m4, A2.l0, b3, e4, ha, e5, A5.l33, cv1, b6, e7, aj, ak, aB, DH]
 ·have:=dq (off:=0) (n:=34) (s:=none) g7 (by rw [uv w];decide) (yN w);rw [this,EP,DX (by rw [uv w];decide)]
set_option maxRecDepth 100000 in
theorem r27 {h:ai} (hG:4<=h.n0) {r:av} (w:r.Wf):(dX r=true -> ∃ a c h',CW 63 [.agg (bW r).toArray] h=some (.tuple #[.slice a 34 c,.int .i64 0],h')/\ax a 34 h'=some (dI r)/\aE h h') /\
  (dX r=false -> ∃ h',CW 63 [.agg (bW r).toArray] h=some (.tuple #[.slice none 0 0,.int .i64 2],h')/\aE h h'):=by
 obtain ⟨h1,b1,o1,g1,n1⟩:=dS h w;have L1:=bj g1 (aQ w).1 (aQ w).2.1;obtain ⟨h2,e2,o2⟩:=r42 (h:=h1) (by rw [o1.n0];exact hG) w;have O2:=o1.trans o2;have L2:=bj (o2.get g1) (aQ w).1 (aQ w).2.1;refine ⟨fun v => ?_,fun v => ?_⟩
 ·rw [v] at e2;obtain ⟨a,c,h3,e3,s3,o3⟩:=r67 (h:=h2) (by rw [O2.n0];exact hG) w;refine ⟨a,c,h3,aL is27 hG rfl ((t27_eq _ _ _).trans ?_),s3,O2.trans o3⟩;unfold t27;simp -implicitDefEqProofs only [b1,L1,e2,L2,e3,aV,DP,aj,ak]
 ·rw [v] at e2;refine ⟨h2,aL is27 hG rfl ((t27_eq _ _ _).trans ?_),O2⟩;unfold t27;simp -implicitDefEqProofs only [b1,L1,e2,aV,DO,aj,ak]
def iH (a b:Int):Int:=if a<b then -1 else if b<a then 1 else 0
def orL:List Int->Int
 | []=>0
 |x::l=>if x=0 then orL l else x
theorem is137:cx prog 99 f99:=by constructor<;>kernel_rfl
theorem is138:cx prog 100 f100:=by constructor<;>kernel_rfl
theorem is115:cx prog 81 f81:=by constructor<;>kernel_rfl
theorem is116:cx prog 82 f82:=by constructor<;>kernel_rfl
theorem is114:cx prog 80 f80:=by constructor<;>kernel_rfl
theorem is63:cx prog 48 f48:=by constructor<;>kernel_rfl
theorem is62:cx prog 47 f47:=by constructor<;>kernel_rfl
theorem r137 {h:ai} (hG:4<=h.n0) (a:Int):CW 99 [.int .u64 a] h=some (.bool false,h):=by refine aL is137 hG rfl ((t137_eq _ _ _).trans ?_);unfold t137;simp -implicitDefEqProofs only [bz,II,aj,ak]
theorem r138 {h:ai} (hG:4<=h.n0) (a:Int):CW 100 [.int .i64 a] h=some (.bool false,h):=by refine aL is138 hG rfl ((t138_eq _ _ _).trans ?_);unfold t138;simp -implicitDefEqProofs only [bz,II,aj,ak]
theorem r115 {h:ai} (hG:4<=h.n0) (a b:Int):CW 81 [.int .u64 a,.int .u64 b] h=some (.int .i64 (iH a b),h):=by
 refine aL is115 hG rfl ((t115_eq _ _ _ _).trans ?_);unfold t115 iH;simp -implicitDefEqProofs only [r137 hG,bL,bJ,aj,ak];by_cases h1:a<b
 ·simp -implicitDefEqProofs only [DC h1, DL h1]
 ·simp -implicitDefEqProofs only [DF h1, DM h1];by_cases h2:b<a
  ·have h2':a>b:=h2;simp -implicitDefEqProofs only [DC h2', DL h2]
  ·have h2' : ¬a>b:=h2;simp -implicitDefEqProofs only [DF h2', DM h2]
theorem r116 {h:ai} (hG:4<=h.n0) (a b:Int):CW 82 [.int .i64 a,.int .i64 b] h=some (.int .i64 (iH a b),h):=by
 refine aL is116 hG rfl ((t116_eq _ _ _ _).trans ?_);unfold t116 iH;simp -implicitDefEqProofs only [r138 hG,bL,bJ,aj,ak];by_cases h1:a<b
 ·simp -implicitDefEqProofs only [DC h1, DL h1]
 ·simp -implicitDefEqProofs only [DF h1, DM h1];by_cases h2:b<a
  ·have h2':a>b:=h2;simp -implicitDefEqProofs only [DC h2', DL h2]
  ·have h2' : ¬a>b:=h2;simp -implicitDefEqProofs only [DF h2', DM h2]
theorem results114:f80.results.toList = [.tmp 2]:=by kernel_rfl
theorem r114 {h:ai} (hG:4<=h.n0) {b:Nat} {vs:List Int} (hl:vs.length=5) (g:h.get b=some (vs.map (.int .i64))):CW 80 [.slice (some ⟨b,0,none⟩) 5 5] h=some (.int .i64 (orL vs),h):=by
 have hll:lenL (.slice (some ⟨b,0,none⟩) 5 5)=some (aq 5):=rfl;refine aL is114 hG rfl ((t114_eq _ _ _).trans ?_);unfold t114;simp -implicitDefEqProofs only [hll,aj,ak];refine bH (n:=18) (fin:=fun ex y g=>g=h/\((ex = .ret/\y 2 = .int .i64 (orL vs))\/(ex = .exit 0/\y 3 = .int .i64 0/\orL vs=0))) (Q:=fun o:bc=>o=some (Value.int .i64 (orL vs),h))
  (bC (tO CW) (Inv:=fun k y g => ∃ i,i+k=5/\y 3 = .int .i64 0/\y 6 = .slice (some ⟨b,0,none⟩) 5 5/\y 7=aq 5/\y 8=aq i/\g=h/\orL vs=orL (vs.drop i)) ?_ 5 (by have:aD=18446744073709551616:=rfl;omega) ⟨0,DH _,rfl,rfl,rfl,rfl,rfl,rfl⟩) ?_
 ·rintro k y g' ⟨i,hik,y3,y6,y7,y8,rfl,ho⟩;unfold lU;simp -implicitDefEqProofs only [y3,y6,y7,y8,ie];by_cases hi:i<5
  ·have hx:idxS 1 (.slice (some ⟨b,0,none⟩) 5 5) (aq i)=some (ptr b i):=by unfold idxS;simp only [];rw [DL (by omega),Int.toNat_natCast,GF,DH]
   have hv:vs[i]? = some vs[i]:=DB (by omega);have hd:ld1 (ptr b i) g'=some (.int .i64 vs[i],g'):=aW g (by rw [EN,hv];rfl) rfl;have hdr:vs.drop i=vs[i]::vs.drop (i+1):=E8 (by omega);by_cases hz:vs[i]=0
   ·have hb:(vs[i] != 0)=false:=by rw [hz];rfl
    simp -implicitDefEqProofs only [DC hi, hx, hd, bz, hb, dR (show i+1<=9223372036854775807 by omega), aj, ak];refine dJ.next (k-1) (by omega) ⟨i+1,by omega,y3,y6,y7,rfl,rfl,?_⟩;rw [ho,hdr,orL,DL hz]
   ·have hb:(vs[i] != 0)=true:=by simpa using hz
    simp -implicitDefEqProofs only [DC hi, hx, hd, bz, hb, aj, ak];refine dJ.ret ⟨rfl,.inl ⟨rfl,?_⟩⟩;rw [ho,hdr,orL,DM hz];rfl
  ·simp -implicitDefEqProofs only [DF hi,aj,ak];refine dJ.out 0 ⟨rfl,.inr ⟨rfl,y3,?_⟩⟩;rw [ho,GU (by omega)];rfl
 ·rintro ex z g' ⟨rfl,⟨rfl,z2⟩|⟨rfl,z3,hz⟩⟩
  ·rw [jd,dC,iD results114 (by decide),z2]
  ·simp -implicitDefEqProofs only [bk,b114_4,EA,AJ];unfold r7;rw [z3,hz];rfl
theorem fill_int {A C:List Value} {o:Nat} {x:Value} {k:IntKind} {n:Int} {cU:List (Nat×Nat×Value)} (hA:A.length=o):fillL (A++([x]++C)) ((o,1,.int k n)::cU)=fillL (A++([.int k n]++C)) cU:=by
 have hc:(Value.int k n).cells = #[.int k n]:=rfl;simp only [fillL,hc];rw [DL (by
  have:o+1<=(A++([x]++C)).length:=by rw [DE,DE,hA];simp
  simp only [DC this];rfl),mf (B := [x]) (B' := [.int k n]) (C:=C) hA rfl rfl]
theorem BW : ∀ {l:List Value},(∀ v∈l,∃ k:Kd,k.has v)->xa l l=true
 | [],_=>rfl
 |v::l,h=>by
  simp only [xa,DK];refine ⟨?_,BW fun w hw=>h w (EI _ hw)⟩;obtain ⟨k,hk⟩:=h v ED;cases k with
  |u8=>obtain ⟨n,rfl,_⟩:=hk;simp [rD]
  |i k=>obtain ⟨n,rfl,_⟩:=hk;simp [rD]
  |b=>obtain ⟨t,rfl⟩:=hk;simp [rD]
theorem df.kinds {ks:List Kd} {cs:List Value} (h:df ks cs) : ∀ v∈cs,∃ k:Kd,k.has v:=by intro v hv;obtain ⟨j,hj⟩:=IP.1 hv;have hlt:=(EV.1 hj).1;rw [h.1] at hlt;obtain ⟨w,hw,hk⟩:=h.2 j _ (DB hlt);rw [hj] at hw;cases hw;exact ⟨_,hk⟩
theorem CX (l:List Value) (g:ai) (h : ∀ v∈l,∃ k:Kd,k.has v):cq true (some (.agg l.toArray,g)) (.agg l.toArray)=true:=by show (!true||rD (.agg ⟨l⟩) (.agg ⟨l⟩))=true;simp only [DP,EO,rD];exact BW h
def pq (a b:av):Int:=orL [iH a.ja b.ja,iH a.qP b.qP,(if a.held=b.held then 0 else if a.held then 1 else -1),iH a.k b.k,iH a.n b.n]
theorem bsl5 (h:ai) (a b c d e:Int):dg 1 (.int .i64 0) 5 [(0,.int .i64 a),(1,.int .i64 b),(2,.int .i64 c),(3,.int .i64 d),(4,.int .i64 e)] h=some (.slice (some ⟨h.next,0,none⟩) 5 5,h.alloc ([a,b,c,d,e].map (.int .i64))):=rfl
theorem ur (a b:Bool):aF prog .neq 4 (.bool a) (.bool b)=some (.bool (a != b)):=by cases a<;>cases b<;>kernel_rfl
set_option maxRecDepth 100000 in
theorem r63 {h:ai} (hG:4<=h.n0) {a b:av} (wa:a.Wf) (wb:b.Wf) : ∃ h',CW 48 [.agg (bW a).toArray,.agg (bW b).toArray] h=some (.int .i64 (pq a b),h')/\aE h h':=by
 obtain ⟨h1,b1,o1,g1,n1⟩:=dS h wa;obtain ⟨h2,b2,o2,g2,n2⟩:=dS h1 wb;have A:=mo wa (o2.get g1);have B:=mo wb g2;have G2:4<=h2.n0:=by rw [o2.n0,o1.n0];exact hG
 have G3 : ∀ k:ju,4<=(h2.alloc k).n0:=fun k=>G2;have e14:=fun c:Int=>r114 (h:=h2.alloc ([iH a.ja b.ja,iH a.qP b.qP,c,iH a.k b.k,iH a.n b.n].map (.int .i64))) (G3 _) (b:=h2.next) (vs := [iH a.ja b.ja,iH a.qP b.qP,c,iH a.k b.k,iH a.n b.n]) rfl (by rw [ai.aN,DL rfl]);have o3:=fun c:Int=>(show aE h2 (h2.alloc ([iH a.ja b.ja,iH a.qP b.qP,c,iH a.k b.k,iH a.n b.n].map (.int .i64))) from az.alloc _ _ _)
 unfold pq;cases qa:a.held<;>cases qb:b.held
 ·refine ⟨_,aL is63 hG rfl ((Ch _ _ _ _).trans ?_),(o1.trans o2).trans (o3 0)⟩;unfold t63;simp -implicitDefEqProofs only [b1,b2,aB,DH,A.l36,B.l36,A.l34,B.l34,A.l35,B.l35,A.l37,B.l37,A.l38,B.l38,qa,qb,ur,II,r115 G2,r116 G2,bsl5,e14,CB,GK,D9,aj,ak,EA]
 ·refine ⟨_,aL is63 hG rfl ((Ch _ _ _ _).trans ?_),(o1.trans o2).trans (o3 (-1))⟩;unfold t63;simp -implicitDefEqProofs only [b1, b2, aB, DH, A.l36, B.l36, A.l34, B.l34, A.l35, B.l35, A.l37, B.l37, A.l38, B.l38, qa, qb, ur, show (false != true)=true from rfl, r115 G2, r116 G2, bsl5, e14, CB, GK, D9, aj, ak];rfl
 ·refine ⟨_,aL is63 hG rfl ((Ch _ _ _ _).trans ?_),(o1.trans o2).trans (o3 1)⟩;unfold t63;simp -implicitDefEqProofs only [b1,b2,aB,DH,A.l36,B.l36,A.l34,B.l34,A.l35,B.l35,A.l37,B.l37,A.l38,B.l38,qa,qb,ur,show (true != false)=true from rfl,r115 G2,r116 G2,bsl5,e14,CB,GK,D9,aj,ak,EA];rfl
 ·refine ⟨_,aL is63 hG rfl ((Ch _ _ _ _).trans ?_),(o1.trans o2).trans (o3 0)⟩;unfold t63;simp -implicitDefEqProofs only [b1,b2,aB,DH,A.l36,B.l36,A.l34,B.l34,A.l35,B.l35,A.l37,B.l37,A.l38,B.l38,qa,qb,ur,II,r115 G2,r116 G2,bsl5,e14,CB,GK,D9,aj,ak,EA]
def xy (r:av):List Value := .int .u8 (r.kind:Int)::(bn r.obj ++ [.int .i64 r.aU])
def atK:List Kd := .u8::(List.replicate 32 .u8 ++ [.i .i64])
theorem lV {r:av} (h:r.Wf):df atK (xy r):=(df.one (k := .u8) ⟨_,rfl,h.kind⟩).app ((dK h.obj).app (df.one (k := .i .i64) ⟨_,rfl,pG.2 h.aU⟩))
abbrev zat:List Value:=BJ
theorem bld_at {r:av} (w:r.Wf):fZ zat [(0,1,.int .u8 (r.kind:Int)),(1,32,.agg (bn r.obj).toArray),(33,1,.int .i64 r.aU)]=some (.agg (xy r).toArray):=by
 have e:fillL zat [(0,1,.int .u8 (r.kind:Int)),(1,32,.agg (bn r.obj).toArray),(33,1,.int .i64 r.aU)]=fillL ([.int .u8 (r.kind:Int)]++(bn z32 ++ [.int .i64 0])) [(1,32,.agg (bn r.obj).toArray),(33,1,.int .i64 r.aU)]:=rfl;unfold fZ;rw [e,iq (A := [.int .u8 (r.kind:Int)]) (B:=bn z32) (o:=1) (n:=32) rfl rfl rfl (by rw [DY];exact w.obj.1)];have e2:fillL ([.int .u8 (r.kind:Int)]++(bn r.obj ++ [.int .i64 0])) [(33,1,.int .i64 r.aU)]=some (xy r):=by
  have e3:([.int .u8 (r.kind:Int)]++(bn r.obj ++ [Value.int .i64 0]))=(([.int .u8 (r.kind:Int)]++bn r.obj)++([Value.int .i64 0] ++ [])):=by simp
  rw [e3,fill_int (by simp [w.obj.1])];show some _=some _;simp [xy]
 rw [e2];rfl
theorem C1 {r:av} (w:r.Wf):(xy r).length=34:=(lV w).1
theorem agg101:su prog 94=some true:=by kernel_rfl
theorem siz101:cS prog 94=some 34:=by kernel_rfl
theorem results62:f47.results.toList = [.cell 2 94]:=by kernel_rfl
theorem dG {rs:List ResultVar} {n k t z:Nat} (hr:rs = [.cell k t]) (h1:su prog t=some true) (h2:cS prog t=some z) (hk:k<n) (x:Nat->Value) {h:ai} {v:Value} (e:du z (x k) h=some (v,h)):resultsA prog rs (aK n x) h=some (v,h):=by subst hr;simp only [resultsA,gh,zn hk,ld_agg h1 h2,e];rfl
set_option maxRecDepth 100000 in
theorem r62 {h:ai} (hG:4<=h.n0) {r:av} (w:r.Wf) : ∃ h',CW 47 [.agg (bW r).toArray] h=some (.agg (xy r).toArray,h')/\aE h h':=by obtain ⟨h1,b1,o1,g1,n1⟩:=dS h w;obtain ⟨h2,z2,o2,g2,n2⟩:=fresh zat h1;have A:=mo w (o2.get g1);have ta:=lV w;obtain ⟨h3,e3,k3,g3,_,_⟩:=aY (n:=34) (k':=xy r) g2 (by rw [o2.n0];exact h1.n0_le_next) rfl (C1 w) ta.all.2.1;have o3:aE h1 h3:=aE.bK o2 k3 (DD _);have l3:=bj g3 (C1 w) ta.all.1;refine ⟨h3,aL is62 hG rfl ((t62_eq _ _ _).trans ?_),o1.trans o3⟩;unfold t62;simp -implicitDefEqProofs only [b1,z2,aB,DH,A.l0,A.l1,A.l33,bld_at w,e3,aj,ak];exact dG results62 agg101 siz101 (show 2<10 by decide) _ l3
theorem at_at {x y:Value} {o:List Value} (ho:o.length=32):(x::(o ++ [y])).toArray[33]? = some y:=by rw [HU,show 33=32+1 from rfl,List.getElem?_cons_succ,EH (by omega),ho];rfl
def nD (a b:av):Bool:=decide (a.kind=b.kind)&&(decide (a.obj=b.obj)&&decide (a.aU=b.aU))
section
theorem kD:su prog 36=some true:=by kernel_rfl
theorem aZ {l:List Nat} (h:js l):(bn l).length=32/\Abs.noHoles (bn l)=true/\aM (bn l)=true:=by have t:=dK h;exact ⟨t.1,t.all.1,t.all.2.1⟩
theorem eqD35 {a b:List Nat} (wa:js a) (wb:js b):aF prog .eql 36 (.agg (bn a).toArray) (.agg (bn b).toArray)=some (.bool (decide (a=b))):=by
 obtain ⟨r,hr,hrun⟩:=xA (d:=9998) (dK wa) (dK wb);have hr':r=decide (a=b):=by
  by_cases e:a=b
  ·rw [DC e,hr.2 (by rw [e])]
  ·rw [DF e];cases r with
   |false=>rfl
   |true=>exact absurd (xl (hr.1 rfl)) e
 rw [<-hr'];exact (Cl (by kernel_rfl) (eV (dK wa).all.2.2) (eV (dK wb).all.2.2) hrun).1
theorem fs_size:Nat.ble 120 prog.funcs.size=true:=by kernel_rfl
theorem XX_yid (L:Nat) (args:List Value) (h:ai):XX (BS prog L) args h=none:=by have e:=EY fs_size;show callL XL (prog.funcs.size+L) args h=none;generalize prog.funcs.size=n at e;unfold callL;rw [DM (show ¬n+L=(5:Nat) by omega)];unfold callL;rw [DM (show ¬n+L=(85:Nat) by omega)];rfl
theorem CW_yield {L:Nat} {args:List Value} {h:ai} {r:Value×ai} (hG:4<=h.n0) (e:roundA prog CW L args h=some r):CW (BS prog L) args h=some r:=
 CC_round (by rw [lD];exact hG) (XX_yid L args h) e
def kz (h:ai) (v:Value) (L:List av):Prop:=
 (∃ a c,v = .slice a L.length c)/\(∀ r∈L,r.Wf) /\ ∀ j,j<L.length -> ∃ b o,idxS 39 v (aq j)=some (ptr b o)/\b<h.next /\ ∀ g:ai,g.get b=h.get b->du 39 (ptr b o) g=some (.agg (bW (L.getD j av.z)).toArray,g)
def gR (v:Value):Prop := ∃ a n c,v = .slice a n c/\n<=c/\(0<n -> ∀ b o s,a=some ⟨b,o,some s⟩->s=39)
theorem kz.mono {h h':ai} {v:Value} {L:List av} (x:kz h v L) (o:aE h h'):kz h' v L:=by refine ⟨x.1,x.2.1,fun j hj => ?_⟩;obtain ⟨b,q,h1,h2,h3⟩:=x.2.2 j hj;have hb:h'.get b=h.get b:=az.get o b h2 (fun h=>h);exact ⟨b,q,h1,EJ h2 o.next,fun g e=>h3 g (e.trans hb)⟩
theorem kz.len {h:ai} {v:Value} {L:List av} (x:kz h v L):lenL v=some (aq L.length):=by obtain ⟨⟨a,c,rfl⟩,_,_⟩:=x;rfl
theorem kz.at {h:ai} {v:Value} {L:List av} (x:kz h v L) {j:Nat} (hj:j<L.length) : ∃ b o,idxS 39 v (aq j)=some (ptr b o)/\(L.getD j av.z).Wf/\L.getD j av.z∈L /\ ∀ g:ai,aE h g->du 39 (ptr b o) g=some (.agg (bW (L.getD j av.z)).toArray,g):=by
 obtain ⟨b,q,h1,h2,h3⟩:=x.2.2 j hj;have hm:L.getD j av.z∈L:=by rw [DJ,DB hj];exact EL hj
 exact ⟨b,q,h1,x.2.1 _ hm,hm,fun g og=>h3 g (az.get og b h2 (fun h=>h))⟩
theorem bnd_hi {n c k:Nat} (h:k<=n) (hc:n<=c):boundsA n c none (some (aq k)) none=some (0,k,c):=by
 have a1:boundA c c none=some c:=rfl;have a2:boundA n c (some (aq k))=some k:=by unfold boundA aq;simp only;rw [DL (by omega)];rfl
 unfold boundsA;rw [a1];simp only [a2];rfl
theorem bnd_lo {n c k:Nat} (h:k<=n) (_:n<=c):boundsA n c (some (aq k)) none none=some (k,n,c):=by
 have a1:boundA c c none=some c:=rfl;have a2:boundA n c none=some n:=rfl;have a3:boundA 0 n (some (aq k))=some k:=by unfold boundA aq;simp only;rw [DL (by omega)];rfl
 unfold boundsA;rw [a1];simp only [a2,a3]
theorem kz.take {h:ai} {v:Value} {L:List av} (x:kz h v L) (g:gR v) {k:Nat} (hk:k<L.length) : ∃ v',nT 39 v none (some (aq k)) none=some v'/\kz h v' (L.take k)/\gR v':=by
 obtain ⟨⟨a,c,rfl⟩,hd,hp⟩:=x;obtain ⟨a',n',c',e,hle,hs⟩:=g;cases e;obtain ⟨b0,o0,e0,_⟩:=hp 0 (by omega);cases a with
 |none=>cases e0
 |some A=>
  obtain ⟨b,off,sp⟩:=A;have hb:=bnd_hi (c:=c) (FM hk) hle;have lt:(L.take k).length=k:=by rw [DV];omega
  refine ⟨.slice (some ⟨b,off,sp⟩) k c,?_,⟨⟨_,_,by rw [lt]⟩,fun q hq=>hd q (EZ hq),fun j hj => ?_⟩,⟨_,_,_,rfl,by omega,fun _=>hs (by omega)⟩⟩
  ·unfold nT sliceSl;cases sp with
   |none=>
    simp only [hb];rw [DM (by omega),GI,Nat.add_zero,Nat.sub_zero,Nat.sub_zero]
   |some s=>
    have:s=39:=hs (by omega) b off s rfl;subst this;simp only [hb];rw [DL ⟨True.intro,by decide⟩,GI,Nat.add_zero,Nat.sub_zero,Nat.sub_zero]
  ·rw [lt] at hj;obtain ⟨b1,o1,e1,e2,e3⟩:=hp j (by omega);have e4:(L.take k).getD j av.z=L.getD j av.z:=by rw [DJ,DJ,FK,DL hj]
   rw [e4];refine ⟨b1,o1,?_,e2,e3⟩;rw [<-e1];unfold idxS aq;simp only;rw [DL (by omega),DL (by omega)]
theorem kz.drop {h:ai} {v:Value} {L:List av} (x:kz h v L) (g:gR v) {k:Nat} (hk:k<L.length) : ∃ v',nT 39 v (some (aq k)) none none=some v'/\kz h v' (L.drop k)/\gR v':=by
 obtain ⟨⟨a,c,rfl⟩,hd,hp⟩:=x;obtain ⟨a',n',c',e,hle,hs⟩:=g;cases e;obtain ⟨b0,o0,e0,_⟩:=hp 0 (by omega);cases a with
 |none=>cases e0
 |some A=>
  obtain ⟨b,off,sp⟩:=A;have hb:=bnd_lo (c:=c) (FM hk) hle;have lt:(L.drop k).length=L.length-k:=EB;refine ⟨.slice (some ⟨b,off+k*39,sp⟩) (L.length-k) (c-k),?_,⟨⟨_,_,by rw [lt]⟩,fun q hq=>hd q (FJ hq),fun j hj => ?_⟩,⟨_,_,_,rfl,by omega,fun _ b' o' s' e=>by cases e;exact hs (by omega) b off s' rfl⟩⟩
  ·unfold nT sliceSl;cases sp with
   |none=>
    simp only [hb];rw [DM (by omega)]
   |some s=>
    have:s=39:=hs (by omega) b off s rfl;subst this;simp only [hb];rw [DL ⟨True.intro,by decide⟩]
  ·rw [lt] at hj;obtain ⟨b1,o1,e1,e2,e3⟩:=hp (k+j) (by omega);have e4:(L.drop k).getD j av.z=L.getD (k+j) av.z:=by rw [DJ,DJ,FL]
   rw [e4];refine ⟨b1,o1,?_,e2,e3⟩;rw [<-e1];unfold idxS aq;simp only;rw [DL (by omega),DL (by omega),Int.toNat_natCast,Int.toNat_natCast,HM,GL]
def bA (P:List av):List Value:=P.flatMap bW
theorem dE : ∀ {P:List av},(∀ p∈P,av.Wf p)->(bA P).length=P.length*39
 | [],_=>rfl
 |p::P,h=>by have ih:=dE (P:=P) fun q hq=>h q (EI _ hq);have hp:=(aQ (h p ED)).1;unfold bA at ih |-;rw [E6,DE,ih,hp,List.length_cons];omega
theorem kO : ∀ {P:List av},(∀ p∈P,av.Wf p) -> ∀ {j:Nat},j<P.length->((bA P).drop (j*39)).take 39=bW (P.getD j av.z)
 | [],_,j,hj=>absurd hj (FP j)
 |p::P,h,j,hj=>by
  have hp:=(aQ (h p ED)).1;cases j with
  |zero=>
   unfold bA;rw [E6,GI,EP,<-hp,JL];rfl
  |succ j=>
   have ih:=kO (P:=P) (fun q hq=>h q (EI _ hq)) (j:=j) (by rw [List.length_cons] at hj;omega);unfold bA at ih |-;rw [E6,show (j+1)*39=39+j*39 by omega,<-List.drop_drop,HW hp,List.getD_cons_succ,ih]
theorem lP : ∀ {P:List av},(∀ p∈P,av.Wf p)->Abs.noHoles (bA P)=true/\aM (bA P)=true
 | [],_=>⟨rfl,rfl⟩
 |p::P,h=>by have ih:=lP (P:=P) fun q hq=>h q (EI _ hq);have hp:=aQ (h p ED);unfold bA at ih |-;unfold Abs.noHoles aM at *;rw [E6,FI,FI,ih.1,ih.2,hp.2.1,hp.2.2];exact ⟨rfl,rfl⟩
def gC (h:ai) (v:Value) (P:List av):Prop:=(∀ p∈P,av.Wf p)/\SlN h jO v P.length (bA P)
theorem gC.rsl {h:ai} {v:Value} {P:List av} (x:gC h v P):kz h v P:=by
 obtain ⟨hd,a,c,rfl,_,_,h0⟩:=x;refine ⟨⟨_,_,rfl⟩,hd,fun j hj => ?_⟩;obtain ⟨b,off,s,k,rfl,hk,hlen,hcs⟩:=h0 (by omega);rw [show jO.length=39 from rfl] at hlen hcs;have hm:=Cx (z:=39) hj;have e:(k.drop (off+j*39)).take 39=bW (P.getD j av.z):=by rw [<-kO hd hj,<-hcs];rw [IH,H2,FV,HI (by omega)]
 refine ⟨b,off+j*39,?_,h.aO hk,fun g hg => ?_⟩
 ·unfold idxS aq;simp only;rw [DL (by omega),Int.toNat_natCast]
 ·have dp:av.Wf (P.getD j av.z):=hd _ (by rw [DJ,DB hj];exact EL hj)
  have:=qF (o:=off+j*39) (n:=39) (hg.trans hk) (by omega) (by rw [e];exact (aQ dp).2.1);rw [e] at this;exact this
theorem gC.mono {h h':ai} {v:Value} {P:List av} (x:gC h v P) (o:aE h h'):gC h' v P:=by obtain ⟨hd,a,c,rfl,hn,ht,h0⟩:=x;refine ⟨hd,a,c,rfl,hn,ht,fun hp => ?_⟩;obtain ⟨b,off,s,k,rfl,hk,hlen,hcs⟩:=h0 hp;exact ⟨b,off,s,k,rfl,aE.get o hk,hlen,hcs⟩
theorem app_recs {g:ai} {v:Value} {P:List av} (x:gC g v P) (hl:P.length<=1000000) :
  ∃ v' g',appendA 39 88 (.slice (some ⟨g.next,0,none⟩) 0 0) v (g.alloc [])=some (v',g')/\aE g g'/\kz g' v' P/\gR v':=by
 have o1:aE g (g.alloc []):=az.alloc _ _ _;obtain ⟨hd,a,c,rfl,hn,ht,h0⟩:=x;by_cases hz:P.length=0
 ·have hP:P = []:=DW.1 hz;subst hP;refine ⟨.slice (some ⟨g.next,0,none⟩) 0 0,g.alloc [],?_,o1,⟨⟨_,_,rfl⟩,hd,fun j hj=>absurd hj (FP j)⟩,⟨_,_,_,rfl,DD _,fun h=>absurd h (GH 0)⟩⟩;cases a with
  |none=>rfl
  |some a=>obtain ⟨b,off,s⟩:=a;rfl
 ·obtain ⟨b,off,s,k,rfl,hk,hlen,hcs⟩:=h0 (by omega);rw [show jO.length=39 from rfl] at hlen hcs;have hl':=dE hd;have hk1:(g.alloc []).get b=some k:=aE.get o1 hk;have hf:firstA 39 P.length (.slice (some ⟨b,off,s⟩) P.length c) (g.alloc [])=some (bA P):=by unfold firstA;simp only;rw [DM (by omega),hk1];simp only;rw [hcs,DL ⟨hlen,(lP hd).1⟩]
  have o2:aE (g.alloc []) ((g.alloc []).alloc (bA P)):=az.alloc _ _ _;have D2:gC ((g.alloc []).alloc (bA P)) (.slice (some ⟨(g.alloc []).next,0,some 39⟩) P.length P.length) P:=by
   refine ⟨hd,_,_,rfl,fun h=>(by cases h),ht,fun _=>⟨_,_,_,bA P,rfl,by rw [ai.aN,DL rfl],?_,?_⟩⟩
   ·rw [show jO.length=39 from rfl,hl',DH];exact DD _
   ·rw [show jO.length=39 from rfl,EP,<-hl',GN]
  refine ⟨.slice (some ⟨(g.alloc []).next,0,some 39⟩) P.length P.length,(g.alloc []).alloc (bA P),?_,o1.trans o2,D2.rsl,⟨_,_,_,rfl,DD _,fun _ b o s e=>by cases e;rfl⟩⟩;have hf0:firstA 39 0 (.slice (some ⟨g.next,0,none⟩) 0 0) (g.alloc [])=some []:=rfl;unfold appendA;simp only [ik,hf,hf0];rw [DM (by simp only [(lP hd).2,hl',DP,EO,FY,FW,FX,DS,DH];omega),DM (by omega)]
  simp only [List.nil_append,DH,List.length_nil,GI];rw [DM (by simp)]
theorem is26:cx prog 8 f8:=by constructor<;>kernel_rfl
theorem is60:cx prog 28 f28:=by constructor<;>kernel_rfl
theorem is113:cx prog 62 f62:=by constructor<;>kernel_rfl
theorem results113:f62.results.toList = [.tmp 4]:=by kernel_rfl
set_option maxRecDepth 100000 in
theorem r113 {h:ai} (hG:4<=h.n0) {v fv:Value} {L:List av} (hv:kz h v L) (hl:L.length<=1000000) (p:av->Bool) (hp : ∀ r∈L,r.Wf -> ∀ g,aE h g -> ∃ g',callA prog CW fv [.agg (bW r).toArray] g=some (.bool (p r),g')/\aE g g') :
  ∃ (k:Int) (h':ai),CW 62 [v,fv] h=some (.int .i64 k,h')/\aE h h'/\decide (k>=0)=L.any p:=by
 have hll:=hv.len;have key : ∃ o:bc,t113 CW v fv h=o /\ ∃ (k:Int) (h':ai),o=some (.int .i64 k,h')/\aE h h'/\decide (k>=0)=L.any p:=by
  refine ⟨_,rfl,?_⟩;unfold t113;simp -implicitDefEqProofs only [hll,aj,ak];refine bH (n:=19) (fin:=fun ex y g=>aE h g/\((ex = .exit 0/\L.any p=false)\/(ex = .ret/\L.any p=true /\ ∃ i:Nat,y 4=aq i))) (Q:=fun o:bc => ∃ (k:Int) (h':ai),o=some (.int .i64 k,h')/\aE h h'/\decide (k>=0)=L.any p)
   (bC (nX CW) (Inv:=fun k y g => ∃ i,i+k=L.length/\y 0=v/\y 1=fv/\y 7=aq L.length/\y 8=aq i/\aE h g/\L.any p=(L.drop i).any p) ?_ L.length (by have:aD=18446744073709551616:=rfl;omega) ⟨0,by omega,rfl,rfl,rfl,rfl,az.refl _ _,by rw [EP]⟩) ?_
  ·rintro k y g ⟨i,hik,y0,y1,y7,y8,O,ha⟩;unfold jV;simp -implicitDefEqProofs only [y7,y8,ie,aj,ak];by_cases hi:i<L.length
   ·obtain ⟨b,o,ix,wr,mr,lp⟩:=hv.at hi;have hd:L.drop i=L.getD i av.z::L.drop (i+1):=by rw [E8 hi,DJ,DB hi];rfl
    rw [hd,List.any_cons] at ha;generalize L.getD i av.z=r at *;have L1:=lp g O;obtain ⟨g',e',o'⟩:=hp r mr wr g O;cases hpr:p r with
    |true=>
     rw [hpr] at e';rw [hpr,FA] at ha;simp -implicitDefEqProofs only [DC hi,y0,y1,ix,L1,e',aj,ak];exact dJ.ret ⟨O.trans o',.inr ⟨rfl,ha,i,rfl⟩⟩
    |false=>
     rw [hpr] at e';rw [hpr,EO] at ha;have a8:aF prog .add 3 (aq i) (.int .i64 1)=some (aq (i+1)):=dR (by omega);simp -implicitDefEqProofs only [DC hi, y0, y1, ix, L1, e', a8, aj, ak];exact dJ.next (k-1) (by omega) ⟨i+1,by omega,y0,y1,y7,rfl,O.trans o',ha⟩
   ·have hiE:i=L.length:=by omega
    rw [hiE,JB] at ha;simp -implicitDefEqProofs only [DF hi];exact dJ.out 0 ⟨O,.inl ⟨rfl,ha⟩⟩
  ·rintro ex z g ⟨O,⟨rfl,ha⟩|⟨rfl,ha,i,z4⟩⟩
   ·simp -implicitDefEqProofs only [bk,b113_3,EA,rW];unfold oD;exact ⟨-1,g,rfl,O,by rw [ha];rfl⟩
   ·rw [jd,dC,iD results113 (by decide),z4];refine ⟨i,g,rfl,O,?_⟩;rw [ha,DC (by omega)]
 obtain ⟨o9,e,k,h',e',q⟩:=key;exact ⟨k,h',aL is113 hG rfl ((t113_eq _ _ _ _).trans (e.trans e')),q⟩
theorem r60 {h:ai} (hG:4<=h.n0) {v fv:Value} {L:List av} (hv:kz h v L) (hl:L.length<=1000000) (p:av->Bool) (hp : ∀ r∈L,r.Wf -> ∀ g,aE h g -> ∃ g',callA prog CW fv [.agg (bW r).toArray] g=some (.bool (p r),g')/\aE g g') :
  ∃ h',CW 28 [v,fv] h=some (.bool (L.any p),h')/\aE h h':=by
 obtain ⟨k,h',e,o,q⟩:=r113 hG hv hl p hp;have ge:aF prog .geq 3 (.int .i64 k) (.int .i64 0)=some (.bool (L.any p)):=by rw [bG,q]
 refine ⟨h',aL is60 hG rfl ((t60_eq _ _ _ _).trans ?_),o⟩;unfold t60;simp -implicitDefEqProofs only [e,ge,aj,ak]
theorem fs_124:Nat.ble 125 prog.funcs.size=true:=by kernel_rfl
def jj (L:List av):Bool:=L.any fun r => !(dX r)
theorem oM {L:List av} (h:jj L=false) : ∀ r∈L,dX r=true:=by intro r hr;unfold jj at h;rw [H3] at h;have:=h r hr;simpa using this
section
open Go.ChangeShapes Go.WideShapes Go.ChangeAt Go.RowKit
variable {H:Type} {enc:TypeId×Value->H} {W:World} {b9:Nat} {held:Bool}
theorem gs_of {t e:TypeId} {z:Nat} (ht:prog.underlying t=some (.slice e)) (he:prog.cellsOf e=z) (hz:0<z) {fuel:Nat} {v:Value} {x:DataW H×List MemPlace} (h:DataW.trod enc prog W b9 (fun _=>true) held fuel t [v]=some x) :
  ∃ a n c,clean W.heap.size v = .slice a n c/\n<=c/\(0<n -> ∀ b o s,a=some ⟨b,o,some s⟩->False):=by
 rcases DataW.trod_slice ht h with ⟨h1,_⟩|⟨a,len,cap,elems,cU,n,_,h1,_,_,hlc,hcm,hl,hel,hsp,_⟩
 ·cases h1;exact ⟨none,0,0,rfl,DD _,fun h=>absurd h (GH 0)⟩
 ·cases h1;rw [he] at hel hsp;have hpos:0<cap->a.spot=none/\a.block<W.heap.size:=by
   intro h0;have key : ∃ cs,W.cells? b9 (a.add (0*z)) z=some cs:=by
    by_cases hlen:0<len
    ·have:=hel 0 hlen;rw [DB (by omega),DZ] at this;obtain ⟨cs,hc,_⟩:=this;exact ⟨cs,hc⟩
    ·have:=(hsp rfl).2 0 (by omega);rw [DB (by rw [(hsp rfl).1];omega),DZ] at this;obtain ⟨cs,hc,_⟩:=this;obtain rfl:len=0:=by omega
     exact ⟨cs,hc⟩
   obtain ⟨cs,hc⟩:=key;obtain ⟨_,hlen,hcell⟩:=World.cells?_some hc;have g:=hcell 0 hz;obtain ⟨c0,hc0⟩ : ∃ c0,cs[0]? = some c0:=⟨cs[0],DB (by omega)⟩
   rw [hc0,GI] at g;have g:W.cell? a=some c0:=g;obtain ⟨e1,e2,_⟩:=vR g;exact ⟨e1,e2⟩
  obtain ⟨g1,a',g2,g3⟩:=wi (W:=W) hlc hpos;refine ⟨_,_,_,g2,hlc,fun h0 b o s e => ?_⟩;have:=g3 (by omega);subst this;have hs:=(hpos (by omega)).1;rw [H5 e] at hs;cases hs
theorem sl22 {fuel:Nat} {v:Value} {x:DataW H×List MemPlace} (h:DataW.trod enc prog W b9 (fun _=>true) held fuel 22 [v]=some x) :
  eK (clean W.heap.size v)=false/\Value.oneCell' (clean W.heap.size v)=true/\gR (clean W.heap.size v) /\ ∃ L,gC (dx W (view W)) (clean W.heap.size v) L:=by
 obtain ⟨h1,n,cs,S⟩:=sl_of Tryz.underlying22 (ks:=jO) (by kernel_rfl) (by decide) rd58 h;obtain ⟨a,m,c,e,h2,h3⟩:=gs_of Tryz.underlying22 (z:=39) (by kernel_rfl) (by decide) h;obtain ⟨P,hP,hcs,hd⟩:=B0 (f:=bW) (P:=av.Wf) (fun xs hx=>rec_of hx) n cs S.typed;subst hP;subst hcs;refine ⟨h1,by rw [e];rfl,⟨a,m,c,e,h2,fun h0 b o s q=>(h3 h0 b o s q).elim⟩,P,hd,S⟩
end
end
end Go.Proofs.YtdnahgfgoajmcaaGreatDoor
namespace Go.Proofs.YtdnahgfgoajmcaaGreatDoor
open Go Go.Abs Tryz
section
def wv (x:BitVec 32):Value := .int .u32 (x.toNat:Int)
section
variable {P:Program} {t:TypeId}
theorem BY (x y:BitVec 32):aF P .add t (wv x) (wv y)=some (wv (x+y)):=by
 unfold wv;rw [my,uy,BitVec.toNat_add]
 congr 3
theorem w_xor (x y:BitVec 32):aF P .xor t (wv x) (wv y)=some (wv (x ^^^ y)):=by unfold wv;rw [bin_xor_nat P t rfl x.isLt y.isLt,BitVec.toNat_xor]
theorem w_and (x y:BitVec 32):aF P .and t (wv x) (wv y)=some (wv (x &&& y)):=by unfold wv;rw [bin_and_nat P t rfl x.isLt y.isLt,BitVec.toNat_and]
theorem w_or (x y:BitVec 32):aF P .or t (wv x) (wv y)=some (wv (x ||| y)):=by unfold wv;rw [bin_or_nat P t rfl x.isLt y.isLt,BitVec.toNat_or]
theorem Br (x:BitVec 32) {k:Nat} (hk:k<=32):aF P .shr t (wv x) (.int .u64 (k:Int))=some (wv (x >>> k)):=by unfold wv;rw [eQ P t (by show k<=32;exact hk),BitVec.toNat_ushiftRight,Nat.shiftRight_eq_div_pow]
theorem vX (x:BitVec 32) {k:Nat} (hk:k<=32):aF P .shl t (wv x) (.int .u64 (k:Int))=some (wv (x <<< k)):=by
 unfold wv;rw [dy];unfold jw;simp only;have hm:min ((k:Int)).toNat (IntKind.bits .u32)=k:=by rw [Int.toNat_natCast];exact HI hk
 rw [DM (by omega),hm,uy,BitVec.toNat_shiftLeft,Nat.shiftLeft_eq]
 congr 2
theorem w_not (x:BitVec 32):unA .xor (wv x)=some (wv (~~~x)):=by
 unfold wv unA qu;simp only;have e1:BitVec.ofInt (IntKind.bits .u32) (if IntKind.signed .u32=true then -1 else IntKind.max .u32)=BitVec.allOnes 32:=by show BitVec.ofInt 32 4294967295=_;rfl
 have e2:BitVec.ofInt (IntKind.bits .u32) ((x.toNat:Nat):Int)=x:=by show BitVec.ofInt 32 _=x;rw [BitVec.ofInt_natCast,BitVec.ofNat_toNat,BitVec.setWidth_eq]
 rw [e1,e2];have e3:(BitVec.allOnes 32 ^^^ x) = ~~~x:=by rw [BitVec.allOnes_xor]
 show some (Value.int .u32 (IntKind.wrap .u32 (((BitVec.allOnes 32 ^^^ x).toNat:Nat):Int)))=_;rw [e3,wrap_u32 (by omega) (by have:=(~~~x).isLt;omega)]
theorem pX (n:Nat) (hn:n<256) (h:ai):lW .u32 (u8 n) h=some (wv (BitVec.ofNat 32 n),h):=by unfold wv;rw [eh,wrap_u32 (by omega) (by omega),IF,GX (by omega)]
end
def eE (x:BitVec 32) (n:Nat):BitVec 32:=(x <<< (32-n)) ||| (x >>> n)
end
end Go.Proofs.YtdnahgfgoajmcaaGreatDoor
namespace Go.Proofs.YtdnahgfgoajmcaaGreatDoor
open Go Go.Abs Tryz
attribute [local congr] aw
theorem is159:cx prog 123 f123:=by constructor<;>kernel_rfl
theorem Ap {h:ai} (hG:4<=h.n0) (x:BitVec 32) {k:Nat} (hk:k<=32) {z:Int} (e:aF prog .and 120 (.int .u64 (IntKind.wrap .u64 z)) (.int .u64 31)=some (.int .u64 ((32-k:Nat):Int))):CW 123 [wv x,.int .i64 z] h=some (wv (eE x k),h):=by
 refine aL is159 hG rfl ((t159_eq _ _ _ _).trans ?_);unfold t159;have e2:aF prog .sub 120 (.int .u64 32) (.int .u64 ((32-k:Nat):Int))=some (.int .u64 ((k:Nat):Int)):=by rw [fE,show (32:Int)-((32-k:Nat):Int)=(k:Int) by omega,wrap_u64 (by omega) (by omega)]
 simp -implicitDefEqProofs only [eh,e,e2,vX x (show 32-k<=32 by omega),Br x hk,w_or,aj,ak];rfl
def w4 (a b c d:Nat):BitVec 32:=(BitVec.ofNat 32 a <<< 24) ||| (BitVec.ofNat 32 b <<< 16) ||| (BitVec.ofNat 32 c <<< 8) ||| BitVec.ofNat 32 d
def wAt (B:List Nat) (i:Nat):BitVec 32:=w4 (B.getD (4*i) 0) (B.getD (4*i+1) 0) (B.getD (4*i+2) 0) (B.getD (4*i+3) 0)
def vD (B:List Nat):List (BitVec 32):=(List.range 16).map (wAt B)
def s0w (x:BitVec 32):BitVec 32:=eE x 7 ^^^ eE x 18 ^^^ (x >>> 3)
def s1w (y:BitVec 32):BitVec 32:=eE y 17 ^^^ eE y 19 ^^^ (y >>> 10)
def pU (l:List (BitVec 32)):BitVec 32:=l.getD (l.length-16) 0+s0w (l.getD (l.length-15) 0)+l.getD (l.length-7) 0+s1w (l.getD (l.length-2) 0)
def ky:Nat->List (BitVec 32)->List (BitVec 32)
 | 0,l=>l
 |n+1,l=>ky n (l ++ [pU l])
abbrev fw (l:List (BitVec 32)):List Value:=l.map wv
def pt (l:List (BitVec 32)):List Value:=fw l++List.replicate (64-l.length) (.int .u32 0)
theorem tt {l:List (BitVec 32)} (h:l.length<=64):(pt l).length=64:=by unfold pt;simp;omega
theorem tK {l:List (BitVec 32)} {i:Nat} (hl:l.length=i) (hi:i<64) (x:BitVec 32):(pt l).set i (wv x)=pt (l ++ [x]):=by
 subst hl;unfold pt;have e:64-l.length=(64-(l.length+1))+1:=by omega
 rw [e,List.replicate_succ];rw [set_app (A:=fw l) (B':=wv x::List.replicate (64-(l.length+1)) (.int .u32 0)) 0 (by simp) rfl];simp
theorem xz {l:List (BitVec 32)} {i:Nat} (hi:i<l.length):(pt l)[i]? = some (wv (l.getD i 0)):=by unfold pt;rw [E9 (by simpa using hi),EN,DJ,DB hi];rfl
def ep (S:List (BitVec 32)) (B:List Nat) (n:Nat):List Value:=fw S++(bn B ++ [aq n])
theorem hash_byte {S:List (BitVec 32)} {B:List Nat} {n:Nat} (hS:S.length=8) {j:Nat} (hj:j<B.length):(ep S B n)[8+j]? = some (u8 (B.getD j 0)):=by unfold ep;rw [EH (by simp [hS]),DY,hS,FO,E9 (by simpa using hj),EN,DJ,DB hj];rfl
theorem nj {N b o i:Nat} (hi:i<N):idxA N 1 (ptr b o) (aq i)=some (ptr b (o+i)):=by unfold idxA;simp only [];rw [DL (by omega),Int.toNat_natCast,GF,aB]
theorem mul4 {i:Nat} (hi:i<1000):aF prog .mul 3 (.int .i64 4) (aq i)=some (aq (4*i)):=by unfold aq;rw [jn,show (4:Int)*(i:Int)=((4*i:Nat):Int) by omega,wrap_i64 (by omega) (by omega)]
theorem addc {i c:Nat} (hi:i+c<100000):aF prog .add 3 (aq i) (.int .i64 (c:Int))=some (aq (i+c)):=by unfold aq;rw [my,show (i:Int)+(c:Int)=((i+c:Nat):Int) by omega,wrap_i64 (by omega) (by omega)]
theorem subc {i c:Nat} (hi:i<100000) (hc:c<=i):aF prog .sub 3 (aq i) (.int .i64 (c:Int))=some (aq (i-c)):=by unfold aq;rw [fE,show (i:Int)-(c:Int)=((i-c:Nat):Int) by omega,wrap_i64 (by omega) (by omega)]
theorem j7 {B:List Nat} (hB:BK B) {j:Nat} (hj:j<B.length):B.getD j 0<256:=by rw [DJ,DB hj];exact hB _ (EL hj)
theorem cmp1 {h:ai} {p b:Nat} {S:List (BitVec 32)} {B:List Nat} {n:Nat} (hS:S.length=8) (hBl:B.length=64) (hB:BK B) (hp:h.get p=some (ep S B n)) (hb:h.n0<=b) (hpb:p≠b) (hw:h.get b=some (pt []))
  {x:Nat->Value} (x0:x 0=ptr p 0) (x2:x 2=ptr b 0) (x24:x 24=aq 0) :
  Fin 241 (fun ex y g=>ex = .exit 0/\y 0=ptr p 0/\y 2=ptr b 0/\az h g (· = b)/\g.get b=some (pt (vD B))/\g.next=h.next) (iter (codeA prog CW (ao f116 [1,0,1,0,0])) aD (aK 241 x) h):=by
 refine bC (vQ CW) (Inv:=fun k y g => ∃ i,i+k=16/\y 0=ptr p 0/\y 2=ptr b 0/\y 24=aq i/\az h g (· = b)/\g.get b=some (pt ((List.range i).map (wAt B)))/\g.next=h.next) ?_ 16 (by have:aD=18446744073709551616:=rfl;omega) ⟨0,DH _,x0,x2,x24,az.refl _ _,hw,rfl⟩;rintro k y g ⟨i,hik,y0,y2,y24,K,gw,gn⟩;unfold nI;have l16:aF prog .lss 3 (aq i) (.int .i64 16)=some (.bool (decide (i<16))):=ie i 16;simp -implicitDefEqProofs only [y24,l16,aj,ak];by_cases hi:i<16
 ·have gp:g.get p=some (ep S B n):=az.getE K hp hpb;have lb : ∀ j,j<64->ld1 (ptr p (8+j)) g=some (u8 (B.getD j 0),g):=fun j hj=>aW gp (hash_byte hS (by omega)) rfl;have c0:=pX _ (j7 hB (j:=4*i) (by omega)) g;have c1:=pX _ (j7 hB (j:=4*i+1) (by omega)) g;have c2:=pX _ (j7 hB (j:=4*i+2) (by omega)) g;have c3:=pX _ (j7 hB (j:=4*i+3) (by omega)) g;have a1:aF prog .add 3 (aq (4*i)) (.int .i64 1)=some (aq (4*i+1)):=addc (c:=1) (by omega);have a2:aF prog .add 3 (aq (4*i)) (.int .i64 2)=some (aq (4*i+2)):=addc (c:=2) (by omega);have a3:aF prog .add 3 (aq (4*i)) (.int .i64 3)=some (aq (4*i+3)):=addc (c:=3) (by omega);have sh24 : ∀ x:BitVec 32,aF prog .shl 139 (wv x) (.int .u64 24)=some (wv (x <<< 24)):=fun x=>vX x (k:=24) (by decide);have sh16 : ∀ x:BitVec 32,aF prog .shl 139 (wv x) (.int .u64 16)=some (wv (x <<< 16)):=fun x=>vX x (k:=16) (by decide);have sh8 : ∀ x:BitVec 32,aF prog .shl 139 (wv x) (.int .u64 8)=some (wv (x <<< 8)):=fun x=>vX x (k:=8) (by decide);have ll:((List.range i).map (wAt B)).length=i:=by simp
  obtain ⟨g2,e2,k2,s2,_,m2⟩:=stored (o:=i) (v:=wv (wAt B i)) gw (by rw [K.n0];exact hb) (by rw [tt (by omega)];omega) rfl rfl;have hw4:wv (BitVec.ofNat 32 (B.getD (4*i) 0) <<< 24 ||| BitVec.ofNat 32 (B.getD (4*i+1) 0) <<< 16 ||| BitVec.ofNat 32 (B.getD (4*i+2) 0) <<< 8 ||| BitVec.ofNat 32 (B.getD (4*i+3) 0))=wv (wAt B i):=rfl;have ix:idxA 64 1 (ptr b 0) (aq i)=some (ptr b i):=by rw [nj (by omega),DH]
  simp -implicitDefEqProofs only [DC hi, y0, y2, mul4 (show i<1000 by omega), bX, aB, DH, nj (show 4*i<64 by omega), nj (show 4*i+1<64 by omega), nj (show 4*i+2<64 by omega), nj (show 4*i+3<64 by omega), lb (4*i) (by omega), lb (4*i+1) (by omega), lb (4*i+2) (by omega), lb (4*i+3) (by omega), c0, c1, c2, c3, a1, a2, a3, sh24, sh16, sh8, w_or, hw4, ix, e2, dR (show i+1<=9223372036854775807 by omega), aj, ak];refine dJ.next (k-1) (by omega) ⟨i+1,by omega,y0,y2,rfl,K.trans k2,?_,m2.trans gn⟩;rw [s2,tK ll (by omega),IQ,FH];rfl
 ·have:i=16:=by omega
  subst this;simp -implicitDefEqProofs only [DF hi];exact dJ.out 0 ⟨rfl,y0,y2,K,gw,gn⟩
theorem and25:aF prog .and 120 (.int .u64 (IntKind.wrap .u64 (-7))) (.int .u64 31)=some (.int .u64 ((32-7:Nat):Int)):=by kernel_rfl
theorem rots {h:ai} (hG:4<=h.n0) (x:BitVec 32):CW 123 [wv x,.int .i64 (-7)] h=some (wv (eE x 7),h)/\CW 123 [wv x,.int .i64 (-18)] h=some (wv (eE x 18),h)/\CW 123 [wv x,.int .i64 (-17)] h=some (wv (eE x 17),h)/\CW 123 [wv x,.int .i64 (-19)] h=some (wv (eE x 19),h) /\
  CW 123 [wv x,.int .i64 (-6)] h=some (wv (eE x 6),h)/\CW 123 [wv x,.int .i64 (-11)] h=some (wv (eE x 11),h)/\CW 123 [wv x,.int .i64 (-25)] h=some (wv (eE x 25),h)/\CW 123 [wv x,.int .i64 (-2)] h=some (wv (eE x 2),h)/\CW 123 [wv x,.int .i64 (-13)] h=some (wv (eE x 13),h)/\CW 123 [wv x,.int .i64 (-22)] h=some (wv (eE x 22),h):=
 ⟨Ap hG x (by decide) and25,Ap hG x (k:=18) (by decide) (by kernel_rfl),Ap hG x (k:=17) (by decide) (by kernel_rfl),Ap hG x (k:=19) (by decide) (by kernel_rfl),Ap hG x (k:=6) (by decide) (by kernel_rfl),Ap hG x (k:=11) (by decide) (by kernel_rfl),Ap hG x (k:=25) (by decide) (by kernel_rfl),Ap hG x (k:=2) (by decide) (by kernel_rfl),Ap hG x (k:=13) (by decide) (by kernel_rfl),Ap hG x (k:=22) (by decide) (by kernel_rfl)⟩
theorem ub : ∀ (n:Nat) (l:List (BitVec 32)),(ky n l).length=l.length+n
 | 0,l=>rfl
 |n+1,l=>by rw [ky,ub n,DE];simp;omega
theorem vw : ∀ (n:Nat) (l:List (BitVec 32)),ky n l ++ [pU (ky n l)]=ky (n+1) l
 | 0,l=>rfl
 |n+1,l=>by rw [ky,vw n];rfl
theorem cmp2 {h:ai} (hG:4<=h.n0) {p b:Nat} {l:List (BitVec 32)} (hl:l.length=16) (hb:h.n0<=b) (hw:h.get b=some (pt l))
  {x:Nat->Value} (x0:x 0=ptr p 0) (x2:x 2=ptr b 0) (x4:x 4=aq 16) :
  Fin 241 (fun ex y g=>ex = .exit 2/\y 0=ptr p 0/\y 2=ptr b 0/\az h g (· = b)/\g.get b=some (pt (ky 48 l))/\g.next=h.next) (iter (codeA prog CW (ao f116 [1,1,0,1,0,0])) aD (aK 241 x) h):=by
 refine bC (ux CW) (Inv:=fun k y g => ∃ i,i+k=48/\y 0=ptr p 0/\y 2=ptr b 0/\y 4=aq (16+i)/\az h g (· = b)/\g.get b=some (pt (ky i l))/\g.next=h.next) ?_ 48 (by have:aD=18446744073709551616:=rfl;omega) ⟨0,DH _,x0,x2,x4,az.refl _ _,hw,rfl⟩;rintro k y g ⟨i,hik,y0,y2,y4,K,gw,gn⟩;unfold ma;have l64:aF prog .lss 3 (aq (16+i)) (.int .i64 64)=some (.bool (decide (16+i<64))):=ie (16+i) 64;simp -implicitDefEqProofs only [y4,l64,aj,ak];by_cases hi:16+i<64
 ·have len:(ky i l).length=16+i:=by rw [ub,hl]
  have hg:4<=g.n0:=by rw [K.n0];exact hG
  have s15:aF prog .sub 3 (aq (16+i)) (.int .i64 15)=some (aq (16+i-15)):=subc (c:=15) (by omega) (by omega);have s2:aF prog .sub 3 (aq (16+i)) (.int .i64 2)=some (aq (16+i-2)):=subc (c:=2) (by omega) (by omega);have s16:aF prog .sub 3 (aq (16+i)) (.int .i64 16)=some (aq (16+i-16)):=subc (c:=16) (by omega) (by omega);have s7:aF prog .sub 3 (aq (16+i)) (.int .i64 7)=some (aq (16+i-7)):=subc (c:=7) (by omega) (by omega);have ix : ∀ j,j<64->idxA 64 1 (ptr b 0) (aq j)=some (ptr b j):=fun j hj=>by rw [nj hj,DH]
  have lw : ∀ j,j<16+i->ld1 (ptr b j) g=some (wv ((ky i l).getD j 0),g):=fun j hj=>aW gw (xz (by omega)) rfl;generalize hX:(ky i l).getD (16+i-15) 0=X at *;generalize hY:(ky i l).getD (16+i-2) 0=Y at *;have lX:=lw (16+i-15) (by omega);have lY:=lw (16+i-2) (by omega);rw [hX] at lX;rw [hY] at lY;obtain ⟨rx7,rx18,_⟩:=rots hg X;obtain ⟨_,_,ry17,ry19,_⟩:=rots hg Y;have sh3 : ∀ x:BitVec 32,aF prog .shr 139 (wv x) (.int .u64 3)=some (wv (x >>> 3)):=fun x=>Br x (k:=3) (by decide);have sh10 : ∀ x:BitVec 32,aF prog .shr 139 (wv x) (.int .u64 10)=some (wv (x >>> 10)):=fun x=>Br x (k:=10) (by decide);have hN:wv ((ky i l).getD (16+i-16) 0+(eE X 7 ^^^ eE X 18 ^^^ X >>> 3)+(ky i l).getD (16+i-7) 0+(eE Y 17 ^^^ eE Y 19 ^^^ Y >>> 10))=wv (pU (ky i l)):=by unfold pU s0w s1w;rw [len,hX,hY]
  obtain ⟨g2,e2,k2,t2,_,m2⟩:=stored (o:=16+i) (v:=wv (pU (ky i l))) gw (by rw [K.n0];exact hb) (by rw [tt (by omega)];omega) rfl rfl;simp -implicitDefEqProofs only [DC hi, y2, s15, s2, s16, s7, ix (16+i-15) (by omega), ix (16+i-2) (by omega), ix (16+i-16) (by omega), ix (16+i-7) (by omega), ix (16+i) (by omega), lX, lY, lw (16+i-16) (by omega), lw (16+i-7) (by omega), rx7, rx18, ry17, ry19, w_xor, sh3, sh10, BY, hN, e2, dR (show 16+i+1<=9223372036854775807 by omega), aj, ak];refine dJ.next (k-1) (by omega) ⟨i+1,by omega,y0,y2,rfl,K.trans k2,?_,m2.trans gn⟩;rw [t2,tK len (by omega),vw]
 ·have:i=48:=by omega
  subst this;simp -implicitDefEqProofs only [DF hi];exact dJ.out 2 ⟨rfl,y0,y2,K,gw,gn⟩
def pK:List (BitVec 32):=bT.map fun v=>match v with | .int _ n=>BitVec.ofInt 32 n|_=>0
theorem rkW_eq:fw pK=bT:=by kernel_rfl
theorem xq:pK.length=64:=by unfold pK;rw [DY];kernel_rfl
structure St where
 a:BitVec 32
 b:BitVec 32
 c:BitVec 32
 d:BitVec 32
 e:BitVec 32
 f:BitVec 32
 g:BitVec 32
 i:BitVec 32
def St.l (s:St):List (BitVec 32) := [s.a,s.b,s.c,s.d,s.e,s.f,s.g,s.i]
def t1S (s:St) (k w:BitVec 32):BitVec 32:=s.i+(eE s.e 6 ^^^ eE s.e 11 ^^^ eE s.e 25)+(s.g ^^^ (s.e &&& (s.f ^^^ s.g)))+k+w
def t2S (s:St):BitVec 32:=(eE s.a 2 ^^^ eE s.a 13 ^^^ eE s.a 22)+((s.a &&& s.b) ||| (s.c &&& (s.a ||| s.b)))
def stepS (s:St) (k w:BitVec 32):St:=⟨t1S s k w+t2S s,s.a,s.b,s.c,s.d+t1S s k w,s.e,s.f,s.g⟩
def w9 (W:List (BitVec 32)):Nat->St->St
 | 0,s=>s
 |n+1,s=>stepS (w9 W n s) (pK.getD n 0) (W.getD n 0)
structure StE (s:St) (y:Nat->Value):Prop where
 a:y 9=wv s.a
 b:y 10=wv s.b
 c:y 11=wv s.c
 d:y 12=wv s.d
 e:y 13=wv s.e
 f:y 14=wv s.f
 g:y 15=wv s.g
 i:y 16=wv s.i
set_option maxRecDepth 100000 in
theorem cmp3 {h:ai} (hG:4<=h.n0) (hz:h.get 3=some bT) {p b:Nat} {W:List (BitVec 32)} (hl:W.length=64) (hw:h.get b=some (pt W)) {s:St}
  {x:Nat->Value} (x0:x 0=ptr p 0) (x2:x 2=ptr b 0) (x154:x 154=aq 0) (xs:StE s x) :
  Fin 241 (fun ex y g=>ex = .exit 4/\y 0=ptr p 0/\StE (w9 W 64 s) y/\g=h) (iter (codeA prog CW (ao f116 [1,1,1,1,1,0,1,0,0])) aD (aK 241 x) h):=by
 refine bC (qw CW) (Inv:=fun k y g => ∃ i,i+k=64/\y 0=ptr p 0/\y 2=ptr b 0/\y 154=aq i/\StE (w9 W i s) y/\g=h) ?_ 64 (by have:aD=18446744073709551616:=rfl;omega) ⟨0,DH _,x0,x2,x154,xs,rfl⟩;rintro k y g ⟨i,hik,y0,y2,y154,Y,rfl⟩;unfold iW;have l64:aF prog .lss 3 (aq i) (.int .i64 64)=some (.bool (decide (i<64))):=ie i 64;simp -implicitDefEqProofs only [y154,l64,aj,ak];by_cases hi:i<64
 ·have ix:idxA 64 1 (ptr b 0) (aq i)=some (ptr b i):=by rw [nj hi,DH]
  have ix3:idxA 64 1 (ptr 3 0) (aq i)=some (ptr 3 i):=by rw [nj hi,DH]
  have lw:ld1 (ptr b i) g=some (wv (W.getD i 0),g):=aW hw (xz (by omega)) rfl;have lk:ld1 (ptr 3 i) g=some (wv (pK.getD i 0),g):=aW hz (by rw [<-rkW_eq,EN,DJ,DB (by rw [xq];exact hi)];rfl) rfl
  generalize hs:w9 W i s=q at *;obtain ⟨_,_,_,_,re6,re11,re25,_⟩:=rots hG q.e;obtain ⟨_,_,_,_,_,_,_,ra2,ra13,ra22⟩:=rots hG q.a;simp -implicitDefEqProofs only [DC hi, y2, Y.a, Y.b, Y.c, Y.d, Y.e, Y.f, Y.g, Y.i, ix, ix3, lw, lk, re6, re11, re25, ra2, ra13, ra22, w_xor, w_and, w_or, BY, dR (show i+1<=9223372036854775807 by omega), aj, ak];refine dJ.next (k-1) (by omega) ⟨i+1,by omega,y0,y2,rfl,?_,rfl⟩;rw [w9,hs];exact ⟨rfl,rfl,rfl,rfl,rfl,rfl,rfl,rfl⟩
 ·have:i=64:=by omega
  subst this;simp -implicitDefEqProofs only [DF hi];exact dJ.out 4 ⟨rfl,y0,⟨Y.a,Y.b,Y.c,Y.d,Y.e,Y.f,Y.g,Y.i⟩,rfl⟩
def addS (l m:List (BitVec 32)):List (BitVec 32):=List.zipWith (· + ·) l m
def gJ (S:List (BitVec 32)) (B:List Nat):List (BitVec 32):=addS S (w9 (ky 48 (vD B)) 64 ⟨S.getD 0 0,S.getD 1 0,S.getD 2 0,S.getD 3 0,S.getD 4 0,S.getD 5 0,S.getD 6 0,S.getD 7 0⟩).l
theorem n9 {S:List (BitVec 32)} {B:List Nat} (h:S.length=8):(gJ S B).length=8:=by unfold gJ addS;rw [List.length_zipWith,h];rfl
theorem xV {S:List (BitVec 32)} (h:S.length=8) : ∃ a b c d e f g i,S = [a,b,c,d,e,f,g,i]:=by
 match S,h with
 | [a,b,c,d,e,f,g,i],_=>exact ⟨a,b,c,d,e,f,g,i,rfl⟩
def wY (S L:List (BitVec 32)) (i:Nat):List (BitVec 32):=(addS S L).take i++S.drop i
theorem mix_step {S L:List (BitVec 32)} (hS:S.length=8) (hL:L.length=8) {i:Nat} (hi:i<8):(wY S L i).getD i 0=S.getD i 0/\(wY S L i).set i (S.getD i 0+L.getD i 0)=wY S L (i+1)/\(wY S L i).length=8:=by
 obtain ⟨a,b,c,d,e,f,g,j,rfl⟩:=xV hS;obtain ⟨a',b',c',d',e',f',g',j',rfl⟩:=xV hL
 match i,hi with
 | 0,_=>exact ⟨rfl,rfl,rfl⟩
 | 1,_=>exact ⟨rfl,rfl,rfl⟩
 | 2,_=>exact ⟨rfl,rfl,rfl⟩
 | 3,_=>exact ⟨rfl,rfl,rfl⟩
 | 4,_=>exact ⟨rfl,rfl,rfl⟩
 | 5,_=>exact ⟨rfl,rfl,rfl⟩
 | 6,_=>exact ⟨rfl,rfl,rfl⟩
 | 7,_=>exact ⟨rfl,rfl,rfl⟩
theorem uW {S:List (BitVec 32)} {B:List Nat} {n j:Nat} (hj:j<S.length):(ep S B n)[j]? = some (wv (S.getD j 0)):=by unfold ep;rw [E9 (by simpa using hj),EN,DJ,DB hj];rfl
theorem hash_set {S:List (BitVec 32)} {B:List Nat} {n j:Nat} (hj:j<S.length) (x:BitVec 32):(ep S B n).set j (wv x)=ep (S.set j x) B n:=by unfold ep;rw [JS _ _ (by simpa using hj)];show (S.map wv).set j (wv x)++_=(S.set j x).map wv++_;rw [JN]
theorem hash_len {S:List (BitVec 32)} {B:List Nat} {n:Nat}:(ep S B n).length=S.length+B.length+1:=by unfold ep;simp;omega
theorem cmp4 {h:ai} {p:Nat} {S L:List (BitVec 32)} {B:List Nat} {n:Nat} (hS:S.length=8) (hL:L.length=8) (hp:h.get p=some (ep S B n)) (hp0:h.n0<=p)
  {x:Nat->Value} (x0:x 0=ptr p 0) (x224:x 224 = .agg (fw L).toArray) (x225:x 225=aq 0) :
  Fin 241 (fun ex _ g=>ex = .exit 6/\az h g (· = p)/\g.get p=some (ep (addS S L) B n)/\g.next=h.next) (iter (codeA prog CW (ao f116 [1,1,1,1,1,1,1,0,0])) aD (aK 241 x) h):=by
 have hm0:wY S L 0=S:=rfl;have hm8:wY S L 8=addS S L:=by obtain ⟨a,b,c,d,e,f,g,j,rfl⟩:=xV hS;obtain ⟨a',b',c',d',e',f',g',j',rfl⟩:=xV hL;rfl
 refine bC (pD CW) (Inv:=fun k y g => ∃ i,i+k=8/\y 0=ptr p 0/\y 224 = .agg (fw L).toArray/\y 225=aq i/\az h g (· = p)/\g.get p=some (ep (wY S L i) B n)/\g.next=h.next) ?_ 8 (by have:aD=18446744073709551616:=rfl;omega) ⟨0,DH _,x0,x224,x225,az.refl _ _,by rw [hm0];exact hp,rfl⟩;rintro k y g ⟨i,hik,y0,y224,y225,K,gp,gn⟩;unfold jb;have l8:aF prog .lss 3 (aq i) (.int .i64 8)=some (.bool (decide (i<8))):=ie i 8;simp -implicitDefEqProofs only [y225,l8,aj,ak];by_cases hi:i<8
 ·obtain ⟨m1,m2,m3⟩:=mix_step hS hL hi;have ix:idxA 8 1 (ptr p 0) (aq i)=some (ptr p i):=by rw [nj hi,DH]
  have ia:ixA1 8 1 (.agg (fw L).toArray) (aq i)=some (wv (L.getD i 0)):=by unfold ixA1;simp only [];rw [DL (by omega),Int.toNat_natCast,GF,HU,EN,DJ,DB (by omega)];rfl
  have lp:ld1 (ptr p i) g=some (wv (S.getD i 0),g):=by rw [<-m1];exact aW gp (uW (by omega)) rfl
  obtain ⟨g2,e2,k2,t2,_,n2⟩:=stored (o:=i) (v:=wv (S.getD i 0+L.getD i 0)) gp (by rw [K.n0];exact hp0) (by rw [hash_len,m3];omega) rfl rfl;simp -implicitDefEqProofs only [DC hi, y0, y224, ia, bX, aB, DH, ix, lp, BY, e2, dR (show i+1<=9223372036854775807 by omega), aj, ak];refine dJ.next (k-1) (by omega) ⟨i+1,by omega,y0,y224,rfl,K.trans k2,?_,n2.trans gn⟩;rw [t2,hash_set (by omega),m2]
 ·have:i=8:=by omega
  subst this;simp -implicitDefEqProofs only [DF hi];rw [hm8] at gp;exact dJ.out 6 ⟨rfl,K,gp,gn⟩
theorem is149:cx prog 116 f116:=by constructor<;>kernel_rfl
theorem results149:f116.results.toList = []:=by kernel_rfl
theorem bld8v (a b c d e f g i:Int):fZ (List.replicate 8 (.int .u32 0)) [(0,1,.int .u32 a),(1,1,.int .u32 b),(2,1,.int .u32 c),(3,1,.int .u32 d),(4,1,.int .u32 e),(5,1,.int .u32 f),(6,1,.int .u32 g),(7,1,.int .u32 i)]=some (.agg ([Value.int .u32 a,.int .u32 b,.int .u32 c,.int .u32 d,.int .u32 e,.int .u32 f,.int .u32 g,.int .u32 i]).toArray):=by kernel_rfl
theorem bld8 (a b c d e f g i:BitVec 32):fZ (List.replicate 8 (.int .u32 0)) [(0,1,wv a),(1,1,wv b),(2,1,wv c),(3,1,wv d),(4,1,wv e),(5,1,wv f),(6,1,wv g),(7,1,wv i)]=some (.agg (fw [a,b,c,d,e,f,g,i]).toArray):=bld8v _ _ _ _ _ _ _ _
set_option maxRecDepth 100000 in
theorem r149 {h:ai} (hG:4<=h.n0) (hz:h.get 3=some bT) {p:Nat} {S:List (BitVec 32)} {B:List Nat} {n:Nat} (hS:S.length=8) (hBl:B.length=64) (hB:BK B) (hp:h.get p=some (ep S B n)) (hp0:h.n0<=p) :
  ∃ h',CW 116 [ptr p 0] h=some (.tuple #[],h')/\az h h' (· = p)/\h'.get p=some (ep (gJ S B) B n):=by
 have hlt:=h.aO hp;obtain ⟨h1,z1,o1,g1,n1⟩:=fresh (List.replicate 64 (.int .u32 0)) h;have hb1:h1.n0<=h.next:=by rw [o1.n0];exact h.n0_le_next
 have hne:p≠h.next:=by omega
 have key : ∃ o:bc,t149 CW (ptr p 0) h=o /\ ∃ h',o=some (.tuple #[],h')/\az h h' (· = p)/\h'.get p=some (ep (gJ S B) B n):=by
  refine ⟨_,rfl,?_⟩;unfold t149;simp -implicitDefEqProofs only [z1, aj];refine bH (Q:=fun o:bc => ∃ h',o=some (.tuple #[],h')/\az h h' (· = p)/\h'.get p=some (ep (gJ S B) B n)) (cmp1 (p:=p) (b:=h.next) hS hBl hB (aE.get o1 hp) hb1 hne g1 rfl rfl rfl) ?_;rintro _ y g ⟨rfl,y0,y2,K2,G2,N2⟩;simp -implicitDefEqProofs only [bk,b149_3,EA,AU];unfold sK;simp -implicitDefEqProofs only [aj];have hg2:4<=g.n0:=by rw [K2.n0,o1.n0];exact hG
  refine bH (Q:=fun o:bc => ∃ h',o=some (.tuple #[],h')/\az h h' (· = p)/\h'.get p=some (ep (gJ S B) B n)) (cmp2 (p:=p) (b:=h.next) hg2 (l:=vD B) (by simp [vD]) (by rw [K2.n0];exact hb1) G2 y0 y2 rfl) ?_;rintro _ y' g3 ⟨rfl,y0',y2',K3,G3,N3⟩;simp -implicitDefEqProofs only [bk,b149_6,EA,Ax];unfold s0;have O3:aE h g3:=(aE.bK o1 K2 (DD _)).also K3 (fun d hd e=>by omega);have hp3:=aE.get O3 hp;have lp : ∀ j,j<8->ld1 (ptr p j) g3=some (wv (S.getD j 0),g3):=fun j hj=>aW hp3 (uW (by omega)) rfl;have ix : ∀ j,j<8->idxA 8 1 (ptr p 0) (aq j)=some (ptr p j):=fun j hj=>by rw [nj hj,DH]
  have i0:idxA 8 1 (ptr p 0) (.int .i64 0)=some (ptr p 0):=ix 0 (by decide);have i1:idxA 8 1 (ptr p 0) (.int .i64 1)=some (ptr p 1):=ix 1 (by decide);have i2:idxA 8 1 (ptr p 0) (.int .i64 2)=some (ptr p 2):=ix 2 (by decide);have i3:idxA 8 1 (ptr p 0) (.int .i64 3)=some (ptr p 3):=ix 3 (by decide);have i4:idxA 8 1 (ptr p 0) (.int .i64 4)=some (ptr p 4):=ix 4 (by decide);have i5:idxA 8 1 (ptr p 0) (.int .i64 5)=some (ptr p 5):=ix 5 (by decide);have i6:idxA 8 1 (ptr p 0) (.int .i64 6)=some (ptr p 6):=ix 6 (by decide);have i7:idxA 8 1 (ptr p 0) (.int .i64 7)=some (ptr p 7):=ix 7 (by decide);simp -implicitDefEqProofs only [y0',bX,aB,DH,i0,i1,i2,i3,i4,i5,i6,i7,lp 0 (by decide),lp 1 (by decide),lp 2 (by decide),lp 3 (by decide),lp 4 (by decide),lp 5 (by decide),lp 6 (by decide),lp 7 (by decide),aj,ak];have hg3:4<=g3.n0:=by rw [O3.n0];exact hG
  refine bH (Q:=fun o:bc => ∃ h',o=some (.tuple #[],h')/\az h h' (· = p)/\h'.get p=some (ep (gJ S B) B n)) (cmp3 (p:=p) (b:=h.next) hg3 (aE.get O3 hz) (W:=ky 48 (vD B)) (by rw [ub];simp [vD]) G3 (s:=⟨S.getD 0 0,S.getD 1 0,S.getD 2 0,S.getD 3 0,S.getD 4 0,S.getD 5 0,S.getD 6 0,S.getD 7 0⟩) y0' y2' rfl ⟨rfl,rfl,rfl,rfl,rfl,rfl,rfl,rfl⟩) ?_;rintro _ y4 g4 ⟨rfl,y40,Y,rfl⟩;simp -implicitDefEqProofs only [bk,b149_16,EA,yI];unfold qt;simp -implicitDefEqProofs only [Y.a,Y.b,Y.c,Y.d,Y.e,Y.f,Y.g,Y.i,bld8,aj,ak];refine bH (Q:=fun o:bc => ∃ h',o=some (.tuple #[],h')/\az h h' (· = p)/\h'.get p=some (ep (gJ S B) B n)) (cmp4 (p:=p) (S:=S) (L:=(w9 (ky 48 (vD B)) 64 ⟨S.getD 0 0,S.getD 1 0,S.getD 2 0,S.getD 3 0,S.getD 4 0,S.getD 5 0,S.getD 6 0,S.getD 7 0⟩).l) hS rfl hp3 (by rw [O3.n0];exact hp0) y40 rfl rfl) ?_;rintro _ y5 g5 ⟨rfl,K5,G5,N5⟩;simp -implicitDefEqProofs only [bk,b149_25,EA];refine ⟨g5,?_,(O3.mono (fun _ _ h=>h.elim)).trans K5,G5⟩;rw [dC,results149];rfl
 obtain ⟨o,e,h',e',k,g⟩:=key;exact ⟨h',aL is149 hG rfl ((t149_eq _ _ _).trans (e.trans e')),k,g⟩
structure HD where
 S:List (BitVec 32)
 B:List Nat
 n:Nat
structure HD.Ok (s:HD):Prop where
 S:s.S.length=8
 B:s.B.length=64
 jt:BK s.B
abbrev HD.cells (s:HD):List Value:=ep s.S s.B s.n
def HD.put (s:HD) (l:List Nat):HD:=
 let fB:=s.n%64
 let k:=min l.length (64-fB)
 let B:=s.B.take fB++(l.take k++s.B.drop (fB+k))
 ⟨if fB+k=64 then gJ s.S B else s.S,B,s.n+k⟩
def HD.wrN:Nat->HD->List Nat->HD
 | 0,s,_=>s
 |f+1,s,l=>if l = [] then s else HD.wrN f (s.put l) (l.drop (min l.length (64-s.n%64)))
def HD.wr (s:HD) (l:List Nat):HD:=HD.wrN l.length s l
theorem HD.wrN_le : ∀ (f g:Nat) (s:HD) (l:List Nat),l.length<=f->l.length<=g->HD.wrN f s l=HD.wrN g s l
 | 0,0,_,_,_,_=>rfl
 | 0,g+1,s,l,h,_=>by have:l = []:=DW.1 (by omega);rw [HD.wrN,HD.wrN,DL this]
 |f+1,0,s,l,_,h=>by have:l = []:=DW.1 (by omega);rw [HD.wrN,HD.wrN,DL this]
 |f+1,g+1,s,l,h1,h2=>by
  rw [HD.wrN,HD.wrN];by_cases e:l = []
  ·rw [DL e,DL e]
  ·rw [DM e,DM e];have hp:0<l.length:=H7.2 e;have hm:s.n%64<64:=HN _ (by decide);exact HD.wrN_le f g _ _ (by rw [EB];omega) (by rw [EB];omega)
theorem HD.wr_nil (s:HD):s.wr []=s:=rfl
theorem HD.wr_put (s:HD) {l:List Nat} (h:l ≠ []):s.wr l=(s.put l).wr (l.drop (min l.length (64-s.n%64))):=by
 unfold HD.wr;have hp:0<l.length:=H7.2 h;obtain ⟨f,hf⟩ : ∃ f,l.length=f+1:=⟨l.length-1,by omega⟩
 rw [hf,HD.wrN,DM h,hf];have hm:s.n%64<64:=HN _ (by decide);exact HD.wrN_le _ _ _ _ (by rw [EB];omega) (DD _)
theorem HD.put_ok {s:HD} (o:s.Ok) {l:List Nat} (hl:BK l):(s.put l).Ok:=by
 have hm:s.n%64<64:=HN _ (by decide);unfold HD.put;refine ⟨?_,?_,?_⟩
 ·simp only;split
  ·exact n9 o.S
  ·exact o.S
 ·simp only [DE,DV,EB,o.B];omega
 ·intro x hx;simp only [DU] at hx;rcases hx with hx|hx|hx
  ·exact o.jt x (EZ hx)
  ·exact hl x (EZ hx)
  ·exact o.jt x (FJ hx)
theorem arr64 {p i:Nat} (h:i<64):sliceArr 64 1 (ptr p 8) (some (aq i)) none none=some (.slice (some ⟨p,8+i,none⟩) (64-i) (64-i)):=by
 have b1:boundA 64 64 (none:Option Value)=some 64:=rfl;have b2:boundA 0 64 (some (aq i))=some i:=by unfold boundA aq;simp only;rw [DL (by omega),Int.toNat_natCast]
 unfold sliceArr;simp only [boundsA,b1,b2];show some (Value.slice (some ⟨p,if 64=i then 8 else 8+i*1,none⟩) (64-i) (64-i))=_;rw [DM (by omega),GF]
theorem copy_min {h:ai} {b off dn dc c n k:Nat} {s:Option Nat} {a:Option Addr} {A B C:List Value} {l:List Nat} (g:h.get b=some (A++(B++C))) (h0:h.n0<=b) (hA:A.length=off) (hB:B.length=k) (hs:ax a n h=some l) (hk:k=min n dn) (hk0:0<k) :
  ∃ g',tC 1 (.slice (some ⟨b,off,s⟩) dn dc) (.slice a n c) h=some (aq k,g')/\az h g' (· = b)/\g'.get b=some (A++(bn (l.take k)++C))/\g'.next=h.next:=by
 obtain ⟨hl,hb,_⟩:=aH hs;have hf:=jN hs (show k<=n by omega) (c:=c);have hlk:(l.take k).length=k:=by rw [DV];omega
 have hsp:splice (A++(B++C)) off (bn (l.take k))=A++(bn (l.take k)++C):=mf hA hB (by rw [DY];exact hlk);refine ⟨h.set b (A++(bn (l.take k)++C)),?_,az.set h0 g (.inr rfl),ai.dZ h0 g _,rfl⟩;unfold tC;simp only [ik];rw [<-hk,hf];simp only;rw [DM (by omega)];unfold stL;simp only [g];rw [DL (by
  have h1:off+(bn (l.take k)).length<=(A++(B++C)).length:=by rw [DE,DE,DY,hA,hB];omega
  simp only [DC h0,DC h1,(De (l.take k)).2,GK]),hsp]
 rfl
theorem is122:cx prog 96 f96:=by constructor<;>kernel_rfl
theorem results122:f96.results.toList = []:=by kernel_rfl
theorem eql158 (b o:Nat):aF prog .eql 142 (ptr b o) (.pointer none)=some (.bool false):=by kernel_rfl
theorem u8s_split {B:List Nat} {i k:Nat}:bn B=bn (B.take i)++(bn ((B.drop i).take k)++bn (B.drop (i+k))):=by
 show B.map u8=(B.take i).map u8++(((B.drop i).take k).map u8++(B.drop (i+k)).map u8)
 rw [<-List.map_append,<-List.map_append,<-List.drop_drop,FC,FC]
set_option maxRecDepth 100000 in
theorem r122 {h:ai} (hG:4<=h.n0) (hz:h.get 3=some bT) {p:Nat} {s:HD} (o:s.Ok) (hp:h.get p=some s.cells) (hp0:h.n0<=p) {a:Option Addr} {n c:Nat} {l:List Nat} (hl:ax a n h=some l) (hg:0<n->iN a n c=true) (ha : ∀ y,a=some y->0<n -> ¬y.block=p) (hfit:s.n+n<=1000000) :
  ∃ h',CW 96 [ptr p 0,.slice a n c] h=some (.tuple #[],h')/\az h h' (· = p)/\h'.get p=some (s.wr l).cells/\(s.wr l).Ok/\(s.wr l).n=s.n+n:=by
 have hlen0:l.length=n:=(aH hl).1;have h3p : ¬3=p:=by have:=h.aO hp;intro e;omega
 have key : ∃ o:bc,t122 CW (ptr p 0) (.slice a n c) h=o /\ ∃ h',o=some (.tuple #[],h')/\az h h' (· = p)/\h'.get p=some (s.wr l).cells/\(s.wr l).Ok/\(s.wr l).n=s.n+n:=by
  refine ⟨_,rfl,?_⟩;unfold t122;simp -implicitDefEqProofs only [eql158,aj,ak];refine bH (n:=40) (fin:=fun ex _ g=>ex = .exit 0/\az h g (· = p)/\g.get p=some (s.wr l).cells/\(s.wr l).Ok/\(s.wr l).n=s.n+n) (Q:=fun o:bc => ∃ h',o=some (.tuple #[],h')/\az h h' (· = p)/\h'.get p=some (s.wr l).cells/\(s.wr l).Ok/\(s.wr l).n=s.n+n)
   (bC (yt CW) (Inv:=fun k y g => ∃ (s':HD) (a':Option Addr) (n' c':Nat) (l':List Nat),n'=k/\y 0=ptr p 0/\y 1 = .slice a' n' c'/\ax a' n' g=some l'/\(0<n'->iN a' n' c'=true)/\(∀ y,a'=some y->0<n' -> ¬y.block=p)/\s'.Ok/\g.get p=some s'.cells/\az h g (· = p)/\s'.wr l'=s.wr l/\s'.n+n'=s.n+n) ?_ n (by have:aD=18446744073709551616:=rfl;omega) ⟨s,a,n,c,l,rfl,rfl,rfl,hl,hg,ha,o,hp,az.refl _ _,rfl,rfl⟩) ?_
  ·rintro k y g ⟨s',a',n',c',l',rfl,y0,y1,sl',hg',ha',o',gp,K,hw,hn⟩;unfold pV;have hll:lenL (.slice a' n' c')=some (aq n'):=rfl;have hgt:aF prog .gtr 3 (aq n') (.int .i64 0)=some (.bool (decide (0<n'))):=by
    unfold aq;rw [bJ]
    congr 2
    rw [JC];omega
   have hlen:l'.length=n':=(aH sl').1;have hby:BK l':=(aH sl').2.1;simp -implicitDefEqProofs only [y1,hll,hgt,aj,ak];by_cases hpos:0<n'
   ·have hm:s'.n%64<64:=HN _ (by decide);generalize hat:s'.n%64=fB at *;generalize hk:min n' (64-fB)=k;have hkp:0<k:=by omega
    have hp0g:g.n0<=p:=by rw [K.n0];exact hp0
    have l72:ld1 (ptr p 72) g=some (aq s'.n,g):=aW gp (by unfold HD.cells ep;rw [EH (by simp [o'.S]),EH (by simp [o'.S,o'.B])];simp [o'.S,o'.B]) rfl
    have hrem:aF prog .rem 3 (aq s'.n) (.int .i64 64)=some (aq fB):=by unfold aq;rw [ry prog 3 .i64 _ 64 (by decide),<-hat];rfl
    have gp1:g.get p=some ((fw s'.S++bn (s'.B.take fB))++(bn ((s'.B.drop fB).take k)++(bn (s'.B.drop (fB+k)) ++ [aq s'.n]))):=by rw [gp];unfold HD.cells ep;rw [u8s_split (B:=s'.B) (i:=fB) (k:=k)];simp only [ER]
    obtain ⟨g2,e2,k2,G2,n2⟩:=copy_min (s:=none) (dn:=64-fB) (dc:=64-fB) (c:=c') (k:=k) (off:=8+fB) gp1 hp0g (by simp [o'.S,o'.B];omega) (by simp [o'.B];omega) sl' hk.symm hkp;have ll72:ld1 (ptr p 72) g2=some (aq s'.n,g2):=aW G2 (by
     rw [EH (by simp [o'.S,o'.B];omega),EH (by simp [o'.S,o'.B];omega),EH (by simp [o'.S,o'.B];omega)];have:72-(fw s'.S++bn (List.take fB s'.B)).length-(bn (List.take k l')).length-(bn (List.drop (fB+k) s'.B)).length=0:=by simp [o'.S,o'.B];omega
     rw [this];rfl) rfl
    have hadd:aF prog .add 3 (aq s'.n) (aq k)=some (aq (s'.n+k)):=by unfold aq;rw [my,show (s'.n:Int)+(k:Int)=((s'.n+k:Nat):Int) by omega,wrap_i64 (by omega) (by omega)]
    have hadd2:aF prog .add 3 (aq fB) (aq k)=some (aq (fB+k)):=by unfold aq;rw [my,show (fB:Int)+(k:Int)=((fB+k:Nat):Int) by omega,wrap_i64 (by omega) (by omega)]
    have hp2:g2.n0<=p:=by rw [k2.n0];exact hp0g
    obtain ⟨g3,e3,k3,G3,_,n3⟩:=stored (o:=72) (v:=aq (s'.n+k)) G2 hp2 (by simp [o'.S,o'.B];omega) rfl rfl;have hBn:((s'.put l').B)=s'.B.take fB++(l'.take k++s'.B.drop (fB+k)):=by unfold HD.put;simp only [hat,hlen,hk]
    have hnn:(s'.put l').n=s'.n+k:=by unfold HD.put;simp only [hat,hlen,hk]
    have G3':g3.get p=some (ep s'.S (s'.put l').B (s'.put l').n):=by
     rw [G3,hBn,hnn];unfold ep;have e1:((fw s'.S++bn (s'.B.take fB))++(bn (l'.take k)++(bn (s'.B.drop (fB+k)) ++ [aq s'.n])))=((fw s'.S++bn (s'.B.take fB))++(bn (l'.take k)++bn (s'.B.drop (fB+k)))) ++ [aq s'.n]:=by simp only [ER]
     rw [e1,set_app (A:=(fw s'.S++bn (s'.B.take fB))++(bn (l'.take k)++bn (s'.B.drop (fB+k)))) (B' := [aq (s'.n+k)]) 0 (by simp [o'.S,o'.B];omega) rfl];simp only [FH,ER]
    have sl3:ax a' n' g3=some l':=(k2.trans k3).bytes sl' ha';obtain ⟨a2,c2,es,ss,gs,bs⟩:=BT (vl:=some (aq k)) (vh:=none) (lo:=k) (hi:=n') (hg' hpos) sl3 (by omega) (DD _) rfl (by unfold boundA aq;simp only;rw [DL (by omega),Int.toNat_natCast])
    have hss:((l'.drop k).take (n'-k))=l'.drop k:=DX (by rw [EB];omega);rw [hss] at ss;have hwr:(s'.put l').wr (l'.drop k)=s.wr l:=by rw [<-hw,HD.wr_put s' (l:=l') (fun e=>by rw [e] at hlen;simp at hlen;omega),hat,hlen,hk]
    have ok2:=HD.put_ok o' hby;have ha2 : ∀ y,a2=some y->0<n'-k -> ¬y.block=p:=fun y hy _ e=>by obtain ⟨y0,h1,h2⟩:=bs y hy;exact ha' y0 h1 hpos (h2.trans e)
    have K3:az h g3 (· = p):=(K.trans k2).trans k3;by_cases hc:fB+k=64
    ·have hceq:aF prog .eql 3 (aq (fB+k)) (.int .i64 64)=some (.bool true):=by unfold aq;rw [bF,hc];rfl
     have hg3:4<=g3.n0:=by rw [K3.n0];exact hG
     obtain ⟨g4,e4,k4,G4⟩:=r149 hg3 (az.getE K3 hz h3p) (p:=p) o'.S ok2.B ok2.jt G3' (by rw [K3.n0];exact hp0);have hS:(s'.put l').S=gJ s'.S (s'.put l').B:=by unfold HD.put;simp only [hat,hlen,hk];rw [DL hc]
     rw [<-hS] at G4;simp -implicitDefEqProofs only [DC hpos,y0,bX,aB,DH,l72,hrem,arr64 hm,e2,ll72,hadd,e3,es,hadd2,hceq,e4,aj,ak];exact dJ.next (n'-k) (by omega) ⟨s'.put l',a2,n'-k,c2,l'.drop k,rfl,y0,rfl,k4.bytes ss ha2,fun _=>gs,ha2,ok2,G4,K3.trans k4,hwr,by rw [hnn];omega⟩
    ·have hceq:aF prog .eql 3 (aq (fB+k)) (.int .i64 64)=some (.bool false):=by
      unfold aq;rw [bF]
      congr 2
      simp only [beq_eq_false_iff_ne,ne_eq];omega
     have hS:(s'.put l').S=s'.S:=by unfold HD.put;simp only [hat,hlen,hk];rw [DM hc]
     rw [<-hS] at G3';simp -implicitDefEqProofs only [DC hpos,y0,bX,aB,DH,l72,hrem,arr64 hm,e2,ll72,hadd,e3,es,hadd2,hceq,aj,ak];exact dJ.next (n'-k) (by omega) ⟨s'.put l',a2,n'-k,c2,l'.drop k,rfl,y0,rfl,ss,fun _=>gs,ha2,ok2,G3',K3,hwr,by rw [hnn];omega⟩
   ·have h0:n'=0:=by omega
    subst h0;have:l' = []:=DW.1 hlen;subst this;simp -implicitDefEqProofs only [DF hpos];rw [HD.wr_nil] at hw;refine dJ.out 0 ⟨rfl,K,by rw [<-hw];exact gp,by rw [<-hw];exact o',by rw [<-hw];omega⟩
  ·rintro _ y g ⟨rfl,K,G,O,N⟩;simp -implicitDefEqProofs only [bk,b122_2,EA];rw [dC,results122];exact ⟨g,rfl,K,G,O,N⟩
 obtain ⟨o1,e,h',e',r⟩:=key;exact ⟨h',aL is122 hG rfl ((t122_eq _ _ _ _).trans (e.trans e')),r⟩
def sj (N v:Nat):Nat->List Nat
 | 0=>128::List.replicate 71 0
 |j+1=>(sj N v j).set (N+j) (v/2^(56-8*j)%256)
def iw (n:Nat):List Nat:=(sj (64-(n+8)%64) (n*8) 8).take (64-(n+8)%64+8)
def nC (S:List (BitVec 32)):Nat->List Nat
 | 0=>List.replicate 32 0
 |j+1=>(nC S j).set j ((S.getD (j/4) 0).toNat/2^(24-8*(j%4))%256)
def HD.sum (s:HD):List Nat:=nC (s.wr (iw s.n)).S 32
theorem uz (N v:Nat) : ∀ j,(sj N v j).length=72
 | 0=>rfl
 |j+1=>by rw [sj,H6,uz N v j]
theorem pW (S:List (BitVec 32)) : ∀ j,(nC S j).length=32
 | 0=>rfl
 |j+1=>by rw [nC,H6,pW S j]
theorem bys_set {l:List Nat} (h:BK l) (i:Nat) {x:Nat} (hx:x<256):BK (l.set i x):=fun y hy=>by
 rcases HF hy with h1|h1
 ·exact h y h1
 ·omega
theorem padT_bys (N v:Nat) : ∀ j,BK (sj N v j)
 | 0=>fun x hx=>by
   have hx:x∈128::List.replicate 71 0:=hx;rcases FQ.1 hx with h|h
   ·omega
   ·have:=GP h;omega
 |j+1=>bys_set (padT_bys N v j) _ (HN _ (by decide))
theorem zm (S:List (BitVec 32)) : ∀ j,BK (nC S j)
 | 0=>fun x hx=>by have:=GP (show x∈List.replicate 32 0 from hx);omega
 |j+1=>bys_set (zm S j) _ (HN _ (by decide))
theorem xp (s:HD):js s.sum:=⟨pW _ 32,zm _ 32⟩
theorem eO (l:List (BitVec 32)):Abs.noHoles (fw l)=true/\aM (fw l)=true:=by
 induction l with
 |nil=>exact ⟨rfl,rfl⟩
 |cons x l ih=>exact ⟨ih.1,ih.2⟩
theorem hash_ok (s:HD):Abs.noHoles s.cells=true/\aM s.cells=true:=by have a:=eO s.S;unfold HD.cells ep;exact ⟨jr _ _ a.1 (jr _ _ (gT _) rfl),iE _ _ a.2 (iE _ _ (p8 _) rfl)⟩
theorem sum1 {h:ai} {b N v:Nat} (hN:N<=64) (_:v<18446744073709551616) (hb:h.n0<=b) (hw:h.get b=some (bn (sj N v 0))) {p2 p3:Value}
  {x:Nat->Value} (x2:x 2=p2) (x3:x 3=p3) (x4:x 4=ptr b 0) (x5:x 5=aq N) (x6:x 6 = .int .u64 (v:Int)) (x30:x 30=aq 0) :
  Fin 66 (fun ex y g=>ex = .exit 0/\y 2=p2/\y 3=p3/\y 4=ptr b 0/\y 5=aq N/\az h g (· = b)/\g.get b=some (bn (sj N v 8))/\g.next=h.next) (iter (codeA prog CW (ao f97 [1,1,1,1,1,1,1,0,1,0,0])) aD (aK 66 x) h):=by
 refine bC (oZ CW) (Inv:=fun k y g => ∃ j,j+k=8/\y 2=p2/\y 3=p3/\y 4=ptr b 0/\y 5=aq N/\y 6 = .int .u64 (v:Int)/\y 30=aq j/\az h g (· = b)/\g.get b=some (bn (sj N v j))/\g.next=h.next) ?_ 8 (by have:aD=18446744073709551616:=rfl;omega) ⟨0,DH _,x2,x3,x4,x5,x6,x30,az.refl _ _,hw,rfl⟩;rintro k y g ⟨j,hjk,y2,y3,y4,y5,y6,y30,K,gw,gn⟩;unfold hZ;have l8:aF prog .lss 3 (aq j) (.int .i64 8)=some (.bool (decide (j<8))):=ie j 8;simp -implicitDefEqProofs only [y30,l8,aj,ak];by_cases hj:j<8
 ·have a1:aF prog .add 3 (aq N) (aq j)=some (aq (N+j)):=addc (c:=j) (by omega);have m1:aF prog .mul 3 (.int .i64 8) (aq j)=some (aq (8*j)):=by unfold aq;rw [jn,show (8:Int)*(j:Int)=((8*j:Nat):Int) by omega,wrap_i64 (by omega) (by omega)]
  have s1:aF prog .sub 3 (.int .i64 56) (aq (8*j))=some (aq (56-8*j)):=by unfold aq;rw [fE,show (56:Int)-((8*j:Nat):Int)=((56-8*j:Nat):Int) by omega,wrap_i64 (by omega) (by omega)]
  have r1:aF prog .shr 32 (.int .u64 (v:Int)) (aq (56-8*j))=some (.int .u64 ((v/2^(56-8*j):Nat):Int)):=eQ prog 32 (by show 56-8*j<=64;omega);have c1:lW .u8 (.int .u64 ((v/2^(56-8*j):Nat):Int)) g=some (u8 (v/2^(56-8*j)%256),g):=by rw [eh,gG];rfl
  have ix:idxA 72 1 (ptr b 0) (aq (N+j))=some (ptr b (N+j)):=by rw [nj (by omega),DH]
  obtain ⟨g2,e2,k2,t2,_,n2⟩:=stored (o:=N+j) (v:=u8 (v/2^(56-8*j)%256)) gw (by rw [K.n0];exact hb) (by rw [DY,uz];omega) rfl rfl;simp -implicitDefEqProofs only [DC hj, y4, y5, y6, a1, m1, s1, r1, c1, ix, e2, dR (show j+1<=9223372036854775807 by omega), aj, ak];refine dJ.next (k-1) (by omega) ⟨j+1,by omega,y2,y3,y4,y5,y6,rfl,K.trans k2,?_,n2.trans gn⟩;rw [t2,sj];show some ((List.map u8 (sj N v j)).set (N+j) (u8 (v/2^(56-8*j)%256)))=some (List.map u8 ((sj N v j).set (N+j) (v/2^(56-8*j)%256)));rw [JN]
 ·have:j=8:=by omega
  subst this;simp -implicitDefEqProofs only [DF hj];exact dJ.out 0 ⟨rfl,y2,y3,y4,y5,K,gw,gn⟩
theorem sum2 {h:ai} {b p:Nat} {S:List (BitVec 32)} {B:List Nat} {n:Nat} (hS:S.length=8) (hp:h.get p=some (ep S B n)) (hpb:p≠b) (hb:h.n0<=b) (hw:h.get b=some (bn (nC S 0))) {p2:Value}
  {x:Nat->Value} (x2:x 2=p2) (x3:x 3=ptr p 0) (x8:x 8=ptr b 0) (x48:x 48=aq 0) :
  Fin 66 (fun ex y g=>ex = .exit 2/\y 2=p2/\y 8=ptr b 0/\az h g (· = b)/\g.get b=some (bn (nC S 32))/\g.next=h.next) (iter (codeA prog CW (ao f97 [1,1,1,1,1,1,1,1,1,1,0,1,0,0])) aD (aK 66 x) h):=by
 refine bC (mn CW) (Inv:=fun k y g => ∃ j,j+k=32/\y 2=p2/\y 3=ptr p 0/\y 8=ptr b 0/\y 48=aq j/\az h g (· = b)/\g.get b=some (bn (nC S j))/\g.next=h.next) ?_ 32 (by have:aD=18446744073709551616:=rfl;omega) ⟨0,DH _,x2,x3,x8,x48,az.refl _ _,hw,rfl⟩;rintro k y g ⟨j,hjk,y2,y3,y8,y48,K,gw,gn⟩;unfold fG;have l32:aF prog .lss 3 (aq j) (.int .i64 32)=some (.bool (decide (j<32))):=ie j 32;simp -implicitDefEqProofs only [y48,l32,aj,ak];by_cases hj:j<32
 ·have q1:aF prog .quo 3 (aq j) (.int .i64 4)=some (aq (j/4)):=by unfold aq;rw [CF prog 3 .i64 _ 4 (by decide),show Int.tdiv (j:Int) 4=((j/4:Nat):Int) from rfl,wrap_i64 (by omega) (by omega)]
  have r1:aF prog .rem 3 (aq j) (.int .i64 4)=some (aq (j%4)):=by unfold aq;rw [ry prog 3 .i64 _ 4 (by decide)];rfl
  have m1:aF prog .mul 3 (.int .i64 8) (aq (j%4))=some (aq (8*(j%4))):=by unfold aq;rw [jn,show (8:Int)*((j%4:Nat):Int)=((8*(j%4):Nat):Int) by omega,wrap_i64 (by omega) (by omega)]
  have s1:aF prog .sub 3 (.int .i64 24) (aq (8*(j%4)))=some (aq (24-8*(j%4))):=by unfold aq;rw [fE,show (24:Int)-((8*(j%4):Nat):Int)=((24-8*(j%4):Nat):Int) by omega,wrap_i64 (by omega) (by omega)]
  have gp:g.get p=some (ep S B n):=az.getE K hp hpb;have lp:ld1 (ptr p (j/4)) g=some (wv (S.getD (j/4) 0),g):=aW gp (uW (by omega)) rfl;have ixp:idxA 8 1 (ptr p 0) (aq (j/4))=some (ptr p (j/4)):=by rw [nj (by omega),DH]
  have ixb:idxA 32 1 (ptr b 0) (aq j)=some (ptr b j):=by rw [nj hj,DH]
  have sh:aF prog .shr 139 (wv (S.getD (j/4) 0)) (aq (24-8*(j%4)))=some (.int .u32 (((S.getD (j/4) 0).toNat/2^(24-8*(j%4)):Nat):Int)):=eQ prog 139 (by show 24-8*(j%4)<=32;omega);have c1:lW .u8 (.int .u32 (((S.getD (j/4) 0).toNat/2^(24-8*(j%4)):Nat):Int)) g=some (u8 ((S.getD (j/4) 0).toNat/2^(24-8*(j%4))%256),g):=by rw [eh,gG];rfl
  obtain ⟨g2,e2,k2,t2,_,n2⟩:=stored (o:=j) (v:=u8 ((S.getD (j/4) 0).toNat/2^(24-8*(j%4))%256)) gw (by rw [K.n0];exact hb) (by rw [DY,pW];omega) rfl rfl;simp -implicitDefEqProofs only [DC hj, y3, y8, q1, r1, m1, s1, aB, DH, ixp, lp, sh, c1, ixb, e2, dR (show j+1<=9223372036854775807 by omega), aj, ak];refine dJ.next (k-1) (by omega) ⟨j+1,by omega,y2,y3,y8,rfl,K.trans k2,?_,n2.trans gn⟩;rw [t2,nC];show some ((List.map u8 (nC S j)).set j (u8 ((S.getD (j/4) 0).toNat/2^(24-8*(j%4))%256)))=some (List.map u8 ((nC S j).set j ((S.getD (j/4) 0).toNat/2^(24-8*(j%4))%256)));rw [JN]
 ·have:j=32:=by omega
  subst this;simp -implicitDefEqProofs only [DF hj];exact dJ.out 2 ⟨rfl,y2,y8,K,gw,gn⟩
abbrev zHash:List Value:=zlit4
theorem is123:cx prog 97 f97:=by constructor<;>kernel_rfl
theorem is121:cx prog 95 f95:=by constructor<;>kernel_rfl
theorem results123:f97.results.toList = [.cell 2 36]:=by kernel_rfl
set_option maxRecDepth 100000 in
theorem r123 {h:ai} (hG:4<=h.n0) (hz:h.get 3=some bT) {p:Nat} {s:HD} (o:s.Ok) (hp:h.get p=some s.cells) (hn:s.n<=100000) :
  ∃ h',CW 97 [ptr p 0] h=some (.agg (bn s.sum).toArray,h')/\aE h h':=by
 have hplt:=h.aO hp;have clen:s.cells.length=73:=by show (ep s.S s.B s.n).length=73;rw [hash_len,o.S,o.B]
 have hok:=hash_ok s;obtain ⟨h1,z1,o1,g1,n1⟩:=fresh (List.replicate 32 (.int .u8 0)) h;have L1:=bj (n:=73) (aE.get o1 hp) clen hok.1;obtain ⟨h2,z2,o2,g2,n2⟩:=fresh zHash h1;obtain ⟨h3,e3,k3,g3,_,n3⟩:=aY (n:=73) (k':=s.cells) g2 (by rw [o2.n0];exact h1.n0_le_next) rfl clen hok.2;have o3:aE h1 h3:=aE.bK o2 k3 (DD _);obtain ⟨h4,z4,o4,g4,n4⟩:=fresh (List.replicate 72 (.int .u8 0)) h3;have hp4:h4.n0<=h3.next:=by rw [o4.n0];exact h3.n0_le_next
 have ix0:idxA 72 1 (ptr h3.next 0) (.int .i64 0)=some (ptr h3.next 0):=by have:=nj (N:=72) (b:=h3.next) (o:=0) (i:=0) (by decide);exact this
 obtain ⟨h5,e5,k5,g5,_,n5⟩:=stored (o:=0) (v := .int .u8 128) g4 hp4 (by decide) rfl rfl;have o5:aE h3 h5:=aE.bK o4 k5 (DD _);have O5:aE h h5:=(o1.trans o3).trans o5;have l72:ld1 (ptr p 72) h5=some (aq s.n,h5):=aW (aE.get O5 hp) (by show (ep s.S s.B s.n)[72]? = _;unfold ep;rw [EH (by simp [o.S]),EH (by simp [o.S,o.B])];simp [o.S,o.B]) rfl
 have a8:aF prog .add 3 (aq s.n) (.int .i64 8)=some (aq (s.n+8)):=by unfold aq;rw [my,show (s.n:Int)+8=((s.n+8:Nat):Int) by omega,wrap_i64 (by omega) (by omega)]
 have rm:aF prog .rem 3 (aq (s.n+8)) (.int .i64 64)=some (aq ((s.n+8)%64)):=by unfold aq;rw [ry prog 3 .i64 _ 64 (by decide)];rfl
 have hm:(s.n+8)%64<64:=HN _ (by decide);have sb:aF prog .sub 3 (.int .i64 64) (aq ((s.n+8)%64))=some (aq (64-(s.n+8)%64)):=by unfold aq;rw [fE,show (64:Int)-(((s.n+8)%64:Nat):Int)=((64-(s.n+8)%64:Nat):Int) by omega,wrap_i64 (by omega) (by omega)]
 have cu:lW .u64 (aq s.n) h5=some (.int .u64 (s.n:Int),h5):=by unfold aq;rw [eh,wrap_u64 (by omega) (by omega)]
 have ml:aF prog .mul 32 (.int .u64 (s.n:Int)) (.int .u64 8)=some (.int .u64 ((s.n*8:Nat):Int)):=by rw [jn,show (s.n:Int)*8=((s.n*8:Nat):Int) by omega,wrap_u64 (by omega) (by omega)]
 have hpad:iw s.n=(sj (64-(s.n+8)%64) (s.n*8) 8).take (64-(s.n+8)%64+8):=rfl;have hplen:(iw s.n).length=64-(s.n+8)%64+8:=by rw [hpad,DV,uz];omega
 have hsum:s.sum=nC (s.wr (iw s.n)).S 32:=rfl;generalize hNN:64-(s.n+8)%64=N at *;have hN:N<=64:=by omega
 have hp5:h5.n0<=h3.next:=by rw [k5.n0];exact hp4
 have key : ∃ o:bc,t123 CW (ptr p 0) h=o /\ ∃ h',o=some (.agg (bn s.sum).toArray,h')/\aE h h':=by
  refine ⟨_,rfl,?_⟩;unfold t123;simp -implicitDefEqProofs only [z1,eql158,bX,L1,z2,e3,z4,ix0,e5,aB,DH,l72,a8,rm,sb,cu,ml,aj,ak];refine bH (Q:=fun o:bc => ∃ h',o=some (.agg (bn s.sum).toArray,h')/\aE h h') (sum1 (N:=N) (v:=s.n*8) hN (by omega) hp5 g5 (p2:=ptr h.next 0) (p3:=ptr h1.next 0) rfl rfl rfl rfl rfl rfl) ?_;rintro _ y g6 ⟨rfl,y2,y3,y4,y5,K6,G6,N6⟩;simp -implicitDefEqProofs only [bk,b123_11,EA,AT];unfold sr;have O6:aE h3 g6:=o5.also K6 (fun d hd e=>by omega);have OO6:aE h g6:=(o1.trans o3).trans O6;have b8:aF prog .add 3 (aq N) (.int .i64 8)=some (aq (N+8)):=addc (c:=8) (by omega);have sa:sliceArr 72 1 (ptr h3.next 0) none (some (aq (N+8))) none=some (.slice (some ⟨h3.next,0,none⟩) (N+8) 72):=by
   have b1:boundA 72 72 (some (aq (N+8)))=some (N+8):=by unfold boundA aq;simp only;rw [DL (by omega),Int.toNat_natCast]
   unfold sliceArr;have b2:boundA 72 72 (none:Option Value)=some 72:=rfl;have b3:boundA 0 (N+8) (none:Option Value)=some 0:=rfl;simp only [boundsA,b1,b2,b3];show some (Value.slice (some ⟨h3.next,if 72=0 then 0 else 0+0*1,none⟩) (N+8-0) (72-0))=_;rw [DM (by decide)];rfl
  have sl:=dq (off:=0) (n:=N+8) (s:=none) G6 (by rw [uz];omega) (padT_bys _ _ _);rw [EP,<-hpad] at sl;have hg6:4<=g6.n0:=by rw [OO6.n0];exact hG
  have G3:g6.get h1.next=some s.cells:=aE.get O6 g3;obtain ⟨h7,e7,k7,g7,w7,m7⟩:=r122 (h:=g6) hg6 (aE.get OO6 hz) (p:=h1.next) (s:=s) o G3 (by rw [OO6.n0];have:=h.n0_le_next;omega) (c:=72) sl (fun _=>by unfold iN;rw [IA (show N+8<=72 by omega)];rfl) (fun y hy _ e=>by cases hy;have:h3.next=h1.next:=e;omega) (by omega)
  obtain ⟨h8,z8,o8,g8,n8⟩:=fresh (List.replicate 32 (.int .u8 0)) h7;have m6:=O6.next;have q7:=k7.next;simp -implicitDefEqProofs only [y5,b8,y4,sa,y3,e7,z8,aj,ak];refine bH (Q:=fun o:bc => ∃ h',o=some (.agg (bn s.sum).toArray,h')/\aE h h') (sum2 (p:=h1.next) (b:=h7.next) w7.S (aE.get o8 g7) (by have:=h7.aO g7;omega) (by rw [o8.n0];exact h7.n0_le_next) g8 (p2:=ptr h.next 0) y2 y3 rfl rfl) ?_;rintro _ y' g9 ⟨rfl,y2',y8',K9,G9,N9⟩;simp -implicitDefEqProofs only [bk,b123_16,EA,Ac];unfold pZ;have dc:=aZ (xp s);rw [<-hsum] at G9;have L9:=bj G9 dc.1 dc.2.1;have O7:aE h h7:=aE.bK OO6 k7 (by omega);have O9:aE h g9:=(O7.trans o8).also K9 (fun d hd e=>by have:=O7.next;omega);have g1':g9.get h.next=some (List.replicate 32 (.int .u8 0)):=by have e1:h3.get h.next=some (List.replicate 32 (.int .u8 0)):=aE.get o3 g1;have e6:g6.get h.next=some (List.replicate 32 (.int .u8 0)):=aE.get O6 e1;have e7':h7.get h.next=some (List.replicate 32 (.int .u8 0)):=az.getE k7 e6 (by omega);exact az.getE K9 (aE.get o8 e7') (by omega)
  obtain ⟨h10,e10,k10,g10,_,_⟩:=aY (n:=32) (k':=bn s.sum) g1' (by rw [O9.n0];exact h.n0_le_next) rfl dc.1 dc.2.2;have L10:=bj g10 dc.1 dc.2.1;simp -implicitDefEqProofs only [y8',L9,y2',e10,aj];refine ⟨h10,?_,aE.bK O9 k10 (DD _)⟩;exact dG results123 kD fI (show 2<66 by decide) _ (by show du 32 (y' 2) h10=_;rw [y2'];exact L10)
 obtain ⟨o1,e,h',e',r⟩:=key;exact ⟨h',aL is123 hG rfl ((t123_eq _ _ _).trans (e.trans e')),r⟩
end Go.Proofs.YtdnahgfgoajmcaaGreatDoor
