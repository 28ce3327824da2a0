/-
  A part of the proof, shortened by a program.
  Conditions: as each theorem states.
-/
import Derived.Test.YtdhpgacmgebjdaaGreatDoorG9
import Derived.Lib.Bytealg
import Derived.Laws.Externs
set_option linter.all false
namespace Go.Abs
noncomputable section
def bytesA (v:Vl) (h:ae):Option (List UInt8):=
 match v with
 | .slice a n c=>(firstA 1 n (.slice a n c) h).bind fun l=>l.mapM asByte
 |_=>none
def cmpS (args:List Vl) (h:ae):aY:=
 match args with
 | [x,y]=>match bytesA x h,bytesA y h with
   |some a,some b=>some (.int .i64 (Lib.compareBytes a b),h)
   |_,_=>none
 |_=>none
section
variable {P:Program} {w:World}
def Addr.add_add (a:Addr) (i:Nat):(a.add i).add 1=a.add (i+1):=by
 unfold Addr.add;by_cases h:i=0
 ·subst h;simp
 ·simp [h,F0]
def loads_of {a:Addr} : ∀ (n i:Nat) (acc:Array Vl) {r:Array Vl} {w':World},(loadCellsFrom a i n acc).run P w = .ok r w' -> ∃ xs:List Vl,r.toList=acc.toList++xs/\xs.length=n /\ ∀ (j:Nat) (x:Vl),xs[j]? = some x->(load (a.add (i+j))).run P w = .ok x w
 | 0,i,acc,r,w',h=>by simp only [loadCellsFrom,Sem.run_pure,Result.ok.injEq] at h;exact ⟨[],by simp [h.1],rfl,by simp⟩
 |n+1,i,acc,r,w',h=>by
  simp only [loadCellsFrom,Sem.run_bind] at h;cases hl:(load (a.add i)).run P w with
  |halt x w1=>rw [hl] at h;cases h
  |ok v w1=>
   have hw:w1=w:=by
    unfold load at hl;unfold Sem.run at hl;split at hl
    ·simp only [Sem.run,Result.ok.injEq] at hl;exact hl.2.symm
    ·split at hl
     ·simp only [Sem.run,Result.ok.injEq] at hl;exact hl.2.symm
     ·cases hl
   rw [hl] at h;rw [hw] at h hl;simp only [Result.andThen_ok] at h;obtain ⟨xs,h1,h2,h3⟩:=loads_of n (i+1) _ h;refine ⟨v::xs,by rw [h1];simp,by simp [h2],?_⟩;intro j x hx;cases j with
   |zero=>simp at hx;subst hx;exact hl
   |succ j=>
    simp at hx;have:=h3 j x hx;rw [show i+1+j=i+(j+1) by omega] at this;exact this
def oY {a:Addr} : ∀ (ns:List Int) (i:Nat) (acc:ByteArray),(∀ (j:Nat) (x:Int),ns[j]? = some x->(load (a.add (i+j))).run P w = .ok (.int .u8 x) w) ->
  (Extern.Bytes.loadBytes (a.add i) ns.length acc).run P w = .ok (ns.foldl (fun s n=>s.push (UInt8.ofNat n.toNat)) acc) w
 | [],i,acc,_=>rfl
 |n::ns,i,acc,h=>by have h0:=h 0 n rfl;simp only [Nat.add_zero] at h0;simp only [List.length_cons,Extern.Bytes.loadBytes,Sem.run_bind,h0,Result.andThen_ok,List.foldl_cons];rw [Addr.add_add];exact oY ns (i+1) _ (fun j x hx=>by have:=h (j+1) x hx;rwa [show i+(j+1)=i+1+j by omega] at this)
def foldl_data (ns:List Int) (acc:ByteArray):(ns.foldl (fun s n=>s.push (UInt8.ofNat n.toNat)) acc).data.toList=acc.data.toList++ns.map fun n=>UInt8.ofNat n.toNat:=by
 induction ns generalizing acc with
 |nil=>simp
 |cons n ns ih=>rw [List.foldl_cons,ih];simp [ByteArray.push]
def rP {μ:Mu} {h:ae} {x x':Vl} {l:List UInt8} (S:cD μ h w) (hx:aF μ x x') (e:bytesA x h=some l) :
  ∃ s:ByteArray,(Extern.Bytes.bytesOf x').run P w = .ok s w/\s.data.toList=l:=by
 unfold bytesA at e;split at e
 ·rename_i a n c;simp only [DU] at e;obtain ⟨cs,hc,hb⟩:=e;obtain ⟨cs',h1,h2,h3⟩:=om S hx hc (DG _) P;obtain ⟨ns,rfl,rfl⟩:=vx hb;have hcs:cs'=ns.map (Value.int .u8):=h2.bG (by simp [bD,flat]);subst hcs;obtain ⟨b',c',rfl,hnone⟩:=hx.jZ;cases b' with
  |none=>
   have hnil:a=none:=by simpa using hnone.symm
   subst hnil;unfold firstA at hc;simp only at hc;split at hc
   ·simp only [DA] at hc;have:ns = []:=by simpa using hc.symm
    subst this;exact ⟨.empty,rfl,rfl⟩
   ·cases hc
  |some a'=>
   have hl:=h3 a' n c' rfl;rw [FG] at hl;unfold loadCells at hl;obtain ⟨xs,k1,k2,k3⟩:=loads_of n 0 #[] hl;have hxs:xs=ns.map (Value.int .u8):=by simpa using k1.symm
   subst hxs;refine ⟨ns.foldl (fun s n=>s.push (UInt8.ofNat n.toNat)) .empty,?_,?_⟩
   ·have hn:n=ns.length:=by simpa using k2.symm
    subst hn;have:=oY (P:=P) (w:=w) (a:=a') ns 0 .empty (fun j x hx=>k3 j _ (by rw [D4,hx];rfl));simpa [Extern.Bytes.bytesOf,Addr.add] using this
   ·rw [foldl_data];simp
 ·cases e
def BP {f : FuncId} {fn : Func} (hf : P.funcs[f]? = some fn) (hname : (fn.name == "runtime.NumGoroutine") = false) (hb : fn.body.isNone = true) (hn : Extern.findNext fn = none) (he : Extern.find fn = some Extern.BytealgCompare.compare) : bU P f cmpS := by
 have key : ∀ {args:List Vl} {h h':ae} {v:Vl},cmpS args h=some (v,h') -> ∃ x y a b,args = [x,y]/\bytesA x h=some a/\bytesA y h=some b/\v = .int .i64 (Lib.compareBytes a b)/\h'=h:=by
  intro args h h' v e;unfold cmpS at e;split at e
  ·rename_i x y;split at e
   ·rename_i a b h1 h2;cases e;exact ⟨x,y,a,b,rfl,h1,h2,rfl,rfl⟩
   ·cases e
  ·cases e
 refine ⟨(DT.1 hf).1,?_,?_,?_⟩
 ·intro args h v h' e;obtain ⟨_,_,_,_,_,_,_,_,rfl⟩:=key e;exact bH.refl _
 ·intro args h v h' e _ hbh;obtain ⟨_,_,_,_,_,_,_,rfl,rfl⟩:=key e;exact ⟨rfl,hbh⟩
 ·intro args h v h' e hba hbh hg μ w args' S hfr r;obtain ⟨x,y,a,b,rfl,h1,h2,rfl,rfl⟩:=key e
  match args',r with
  | [x',y'],r=>
    obtain ⟨s1,k1,k2⟩:=rP (P:=P) S r.head h1;obtain ⟨s2,k3,k4⟩:=rP (P:=P) S r.tail.head h2;refine .inr ⟨.int .i64 (Lib.compareBytes a b),w,?_,μ,_,rfl,S,.cq,.flat rfl⟩;rw [run_callFunc_extern hf hname hb hn he];have:(Extern.BytealgCompare.compare [x',y'].toArray).run P w = .ok (.int .i64 (Lib.compareBytes a b)) w:=by show Sem.run P (do pure (goInt (Extern.BytealgCompare.cmp (<-Extern.Bytes.bytesOf x') (<-Extern.Bytes.bytesOf y')))) w=_;simp only [Sem.run_bind,k1,k3,Result.andThen_ok,Sem.run_pure];rw [Lib.cmp_eq,k2,k4];rfl
    rw [this];rfl
  | [],r=>have:=r.1;simp at this
  | [_],r=>have:=r.1;simp at this
  |_::_::_::_,r=>have:=r.1;simp at this
end
def cloneS (args:List Vl) (h:ae):aY:=
 match args with
 | [.iface t (.map (some m))]=>match h.getB m with
   |some (.obj (.map es c))=>some (.iface t (.map (some h.next)),h.ba (.obj (.map es c)))
   |_=>none
 |_=>none
section
variable {P:Program} {w:World}
def addS (args:List Vl) (h:ae):aY:=
 match args with
 | [.pointer (some ⟨b,off,none⟩),.int .u64 d]=>match h.get b with
   |some k=>match k[off]? with
    |some (.int .u64 n)=>if h.n0<=b then some (.int .u64 (IntKind.wrap .u64 (n+d)),h.set b (splice k off [.int .u64 (IntKind.wrap .u64 (n+d))])) else none
    |_=>none
   |none=>none
 |_=>none
end
end
end Go.Abs
