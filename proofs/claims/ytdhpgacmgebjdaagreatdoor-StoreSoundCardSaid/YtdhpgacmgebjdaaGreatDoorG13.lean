/-
  A part of the proof, shortened by a program.
  Conditions: as each theorem states.
-/
import Derived.Test.YtdhpgacmgebjdaaGreatDoorG12
import Derived.ProofKit
import Derived.OpenShut
set_option linter.all false
namespace Go.Proofs.YtdhpgacmgebjdaaGreatDoor
open Go Go.Abs Tryz
open Go.ChangeShapes Go.WideShapes Go.ChangeAt Go.RowKit
noncomputable section
def clean_nice {n:Nat} {v:Vl} (h:nice n v=true):clean n v=v:=by unfold clean;rw [DR h]
def litOf {H:Type}:Vl->DataW H
 | .int k n => .lit (.int k n)
 |_ => .agg []
def litOf_inj {H:Type} {v:Vl} {k:IntKind} {n:Int} (h:(litOf v:DataW H) = .lit (.int k n)):v = .int k n:=by
 cases v with
 |int k' n'=>
  have h:(DataW.lit (Lit.int k' n'):DataW H) = .lit (.int k n):=h;have q:=Lit.int.inj (DataW.lit.inj h);rw [q.1,q.2]
 |_=>cases h
def r0:cH.length=64:=by kernel_rfl
def rounds_ints:(cH.all fun v=>match v with | .int _ _=>true|_=>false)=true:=by kernel_rfl
def nice_rounds (n:Nat) : ∀ v∈cH,clean n v=v:=by
 intro v hv;have h:=rounds_ints;rw [DX] at h;have h:=h v hv;cases v with
 |int k m=>exact clean_nice rfl
 |_=>cases h
def BV (n:Nat):cH.map (clean n)=cH:=by rw [List.map_congr_left (nice_rounds n),List.map_id']
def CW {W:World} {fuel:Nat} {cs:List Vl} {p:List MemPlace} {d:DataW Unit} (hd:d = .agg (cH.map litOf)) (h:DataW.trod (fun _=>()) prog W 0 (fun _=>true) false fuel 316 cs=some (d,p)):cs=cH:=by
 subst hd;obtain ⟨xs,m,rfl,hx,hl,hxl,hf⟩:=DataW.trod_array Tryz.underlying316 h;have h316:prog.cellsOf 316=64:=by kernel_rfl
 have h186:prog.cellsOf 186=1:=by kernel_rfl
 rw [h316] at hl;have hx:=E2 Prod.fst hx;have hx:(DataW.agg (cH.map litOf):DataW Unit) = .agg (xs.map (·.1)):=hx;have hx:=DataW.agg.inj hx;refine FA fun j => ?_;by_cases hj:j<64
 ·have e:=hf j hj;rw [DL (by omega),h186,FQ] at e;obtain ⟨n,e1,e2,_⟩:=DataW.trod_int Tryz.underlying186 e;have q:(cH.map (litOf (H:=Unit)))[j]? = (xs.map (·.1))[j]? := by rw [hx]
  rw [EG,EG,DL (by rw [r0];exact hj),DL (by omega),e2] at q;have q:=litOf_inj (HS q);have e3:((cs.drop j).take 1)[0]? = some (.int .u32 n):=by rw [e1];rfl
  rw [FJ,DR (by decide),FH,Nat.add_zero] at e3;rw [e3,DL (by rw [r0];exact hj),q]
 ·rw [ER (by omega),ER (by rw [r0];omega)]
inductive Kd where
 |u8
 |i (k:IntKind)
 |b
def Kd.has:Kd->Vl->Prop
 | .u8,v => ∃ n:Nat,v = .int .u8 n/\n<256
 | .i k,v => ∃ n:Int,v = .int k n/\(Lit.int k n).wf=true
 | .b,v => ∃ t:Bool,v = .bool t
def jS (ks:List Kd) (cs:List Vl):Prop:=cs.length=ks.length /\ ∀ (j:Nat) (k:Kd),ks[j]? = some k -> ∃ v,cs[j]? = some v/\k.has v
def oW (ks:List Kd) (n:Nat) (cs:List Vl):Prop:=cs.length=n*ks.length /\ ∀ i,i<n->jS ks ((cs.drop (i*ks.length)).take ks.length)
def j0 (h:ae) (ks:List Kd) (v:Vl) (n:Nat) (cs:List Vl):Prop:=
 ∃ a c,v = .slice a n c/\(a=none->n=0)/\oW ks n cs/\(0<n -> ∃ b off s k,a=some ⟨b,off,s⟩/\h.get b=some k/\off+n*ks.length<=k.length/\(k.drop off).take (n*ks.length)=cs)
def AV:Vl->Option Nat
 | .slice (some a) (_+1) _=>some a.block
 |_=>none
def u8_lit {n:Int} (h:(Lit.int .u8 n).wf=true) : ∃ m:Nat,n=m/\m<256:=by simp [Lit.wf,IntKind.min,IntKind.max,IntKind.signed,IntKind.bits] at h;exact ⟨n.toNat,by omega,by omega⟩
def Bn (a:Addr) (n:Nat):(a.add n).block=a.block:=by unfold Addr.add;split<;>rfl
def add_off (a:Addr) (n:Nat):(a.add n).off=a.off+n:=by
 unfold Addr.add;split
 ·rename_i h;rw [h];rfl
 ·rfl
section
variable {H:Type} {enc:TypeId×Vl->H} {W:World} {base:Nat} {held:Bool}
end
section
variable {H:Type} {enc:TypeId×Vl->H} {W:World} {base:Nat} {held:Bool}
def fld {fuel:Nat} {t:TypeId} {cs:List Vl} {x:DataW H×List MemPlace} {fs:Array Field} (ht:prog.underlying t=some (.struct fs)) (h:DataW.trod enc prog W base (fun _=>true) held fuel t cs=some x) {i z:Nat} {f:Field} (hf:fs[i]? = some f) (hz:prog.cellsOf f.type=z) :
  ∃ m y,DataW.trod enc prog W base (fun _=>true) held m f.type ((cs.drop f.offset).take z)=some y:=by
 obtain ⟨xs,n,rfl,_,_,hl,h2⟩:=DataW.trod_struct ht h;have:=h2 i f hf;rw [DL (by rw [hl];exact (DZ.1 hf).1),hz] at this;exact ⟨_,_,this⟩
end
end
end Go.Proofs.YtdhpgacmgebjdaaGreatDoor
