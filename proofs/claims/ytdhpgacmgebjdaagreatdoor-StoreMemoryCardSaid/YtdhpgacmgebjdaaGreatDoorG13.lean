/-
  A part of the proof, shortened by a program.
  Conditions: as each theorem states.
-/
import Derived.Test.YtdhpgacmgebjdaaGreatDoorG12
import Derived.ProofKit
import Derived.OpenShut
set_option linter.all false
namespace Go.Proofs.YtdhpgacmgebjdaaGreatDoor
open Go Go.Abs Tryz
open Go.ChangeShapes Go.WideShapes Go.ChangeAt Go.RowKit
noncomputable section
def clean_nice {n:Nat} {v:Vl} (h:nice n v=true):clean n v=v:=by unfold clean;rw [DH h]
def litOf {H:Type}:Vl->DataW H
 | .int k n => .lit (.int k n)
 |_ => .agg []
def litOf_inj {H:Type} {v:Vl} {k:IntKind} {n:Int} (h:(litOf v:DataW H) = .lit (.int k n)):v = .int k n:=by
 cases v with
 |int k' n'=>
  have h:(DataW.lit (Lit.int k' n'):DataW H) = .lit (.int k n):=h;have q:=Lit.int.inj (DataW.lit.inj h);rw [q.1,q.2]
 |_=>cases h
def sO:cP.length=64:=by kernel_rfl
def rounds_ints:(cP.all fun v=>match v with | .int _ _=>true|_=>false)=true:=by kernel_rfl
def nice_rounds (n:Nat) : ∀ v∈cP,clean n v=v:=by
 intro v hv;have h:=rounds_ints;rw [DQ] at h;have h:=h v hv;cases v with
 |int k m=>exact clean_nice rfl
 |_=>cases h
def Dg (n:Nat):cP.map (clean n)=cP:=by rw [List.map_congr_left (nice_rounds n),List.map_id']
def Db {W:World} {fuel:Nat} {cs:List Vl} {p:List MemPlace} {d:DataW Unit} (hd:d = .agg (cP.map litOf)) (h:DataW.trod (fun _=>()) prog W 0 (fun _=>true) false fuel 316 cs=some (d,p)):cs=cP:=by
 subst hd;obtain ⟨xs,m,rfl,hx,hl,hxl,hf⟩:=DataW.trod_array Tryz.underlying316 h;have h316:prog.cellsOf 316=64:=by kernel_rfl
 have h186:prog.cellsOf 186=1:=by kernel_rfl
 rw [h316] at hl;have hx:=FP Prod.fst hx;have hx:(DataW.agg (cP.map litOf):DataW Unit) = .agg (xs.map (·.1)):=hx;have hx:=DataW.agg.inj hx;refine FC fun j => ?_;by_cases hj:j<64
 ·have e:=hf j hj;rw [DE (by omega),h186,FG] at e;obtain ⟨n,e1,e2,_⟩:=DataW.trod_int Tryz.underlying186 e;have q:(cP.map (litOf (H:=Unit)))[j]? = (xs.map (·.1))[j]? := by rw [hx]
  rw [D4,D4,DE (by rw [sO];exact hj),DE (by omega),e2] at q;have q:=litOf_inj (HT q);have e3:((cs.drop j).take 1)[0]? = some (.int .u32 n):=by rw [e1];rfl
  rw [E7,DH (by decide),EY,Nat.add_zero] at e3;rw [e3,DE (by rw [sO];exact hj),q]
 ·rw [EN (by omega),EN (by rw [sO];omega)]
inductive Kd where
 |u8
 |i (k:IntKind)
 |b
def Kd.has:Kd->Vl->Prop
 | .u8,v => ∃ n:Nat,v = .int .u8 n/\n<256
 | .i k,v => ∃ n:Int,v = .int k n/\(Lit.int k n).wf=true
 | .b,v => ∃ t:Bool,v = .bool t
def ko (ks:List Kd) (cs:List Vl):Prop:=cs.length=ks.length /\ ∀ (j:Nat) (k:Kd),ks[j]? = some k -> ∃ v,cs[j]? = some v/\k.has v
def pV (ks:List Kd) (n:Nat) (cs:List Vl):Prop:=cs.length=n*ks.length /\ ∀ i,i<n->ko ks ((cs.drop (i*ks.length)).take ks.length)
def nC (h:ae) (ks:List Kd) (v:Vl) (n:Nat) (cs:List Vl):Prop:=
 ∃ a c,v = .slice a n c/\(a=none->n=0)/\pV ks n cs/\(0<n -> ∃ b off s k,a=some ⟨b,off,s⟩/\h.get b=some k/\off+n*ks.length<=k.length/\(k.drop off).take (n*ks.length)=cs)
def zK:Vl->Option Nat
 | .slice (some a) (_+1) _=>some a.block
 |_=>none
def u8_lit {n:Int} (h:(Lit.int .u8 n).wf=true) : ∃ m:Nat,n=m/\m<256:=by simp [Lit.wf,IntKind.min,IntKind.max,IntKind.signed,IntKind.bits] at h;exact ⟨n.toNat,by omega,by omega⟩
section
variable {H:Type} {enc:TypeId×Vl->H} {W:World} {cK:Nat} {held:Bool}
end
section
variable {H:Type} {enc:TypeId×Vl->H} {W:World} {cK:Nat} {held:Bool}
end
end
end Go.Proofs.YtdhpgacmgebjdaaGreatDoor
