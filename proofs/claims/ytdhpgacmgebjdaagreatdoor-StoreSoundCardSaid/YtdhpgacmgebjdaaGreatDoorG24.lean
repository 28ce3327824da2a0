/-
  A part of the proof, shortened by a program.
  Conditions: as each theorem states.
-/
import Derived.Test.YtdhpgacmgebjdaaGreatDoorG23
import Derived.Shelf.SlSortCmp.WholeK
set_option linter.all false
namespace Go.Abs
open Go.Sort
noncomputable section
def cn.rL {μ:Mu} {h:ae} {w w':World} (s:cn μ h w) (hp : ∀ (B:Nat) (o:Obj),w.heap[B]? = some o->w'.heap[B]? = some o) (hs:w.heap.size<=w'.heap.size):cn μ h w':=by
 refine ⟨?_,?_,?_,s.inj,ED s.size hs,s.low⟩
 ·intro b cs hb hc;obtain ⟨L,arr,T,fr,h1,h2,h3,h4,h5⟩:=s.old b cs hb hc;exact ⟨L,arr,T,fr,h1,h2,h3,hp _ _ h4,h5⟩
 ·intro b k hb hk;obtain ⟨L,arr,T,fr,h1,h2,h3,h4,h5,h6,h7,h8⟩:=s.new b k hb hk;exact ⟨L,arr,T,fr,h1,h2,hp _ _ h3,h4,h5,h6,h7,h8⟩
 ·intro b o hb ho;obtain ⟨L,ob,h1,h2,h3,h4,h5⟩:=s.obj b o hb ho;exact ⟨L,ob,h1,hp _ _ h2,h3,h4,h5⟩
def ca.rL {μ μ':Mu} {h h':ae} {w w1 w':World} (s:ca μ h w μ' h' w1) (hp : ∀ (B:Nat) (o:Obj),w1.heap[B]? = some o->w'.heap[B]? = some o) (hs:w1.heap.size<=w'.heap.size)
  (ho:w'.os=w1.os) (ht:w'.tape=w1.tape) (hu:w'.output=w1.output) (hd:w1.drawn<=w'.drawn):ca μ h w μ' h' w':=by
 have key : ∀ B,B<w1.heap.size->w'.heap[B]? = w1.heap[B]? := fun B hB=>by rw [FP hB,hp B _ (FP hB)]
 refine ⟨s.ext,s.n0,s.old,s.next,ho.trans s.os,ht.trans s.tape,hu.trans s.output,ED s.size hs,fun B hB hn => ?_,s.own,fun B r hB => ?_,ED s.drawn hd⟩
 ·rw [key B (FC hB s.size)];exact s.same B hB hn
 ·obtain ⟨r',h1⟩:=s.loops B r hB;exact ⟨r',hp _ _ h1⟩
def AN {w:World} {g o:Nat} {cur:Array Vl} {T:TypeId} {fr:Nat×Nat} {d:Array Vl} (hg:w.heap[g]? = some (.cells cur T fr)) (ho:o+d.size<=cur.size) :
  w.setRow g (splice cur.toList o d.toList).toArray=putRow id w g o d:=by
 show mapBlock w g (fun _=>(splice cur.toList o d.toList).toArray)=mapBlock w g (putCells id o d);refine mapBlock_congr w g _ _ fun c e fr' h => ?_;rw [hg] at h;cases h;refine Array.ext ?_ fun i h1 h2 => ?_
 ·rw [E7,jD (by simpa using ho)];simp [putCells]
 ·have hi:i<cur.size:=by simpa [putCells] using h2
  have e2:(putCells id o d cur)[i]=if o<=i/\i<o+d.size then d[i-o]! else cur[i]:=by simp [putCells]
  rw [e2,List.getElem_toArray];unfold splice;by_cases h3:i<o
  ·rw [DU (by omega),IM (by simp;omega),IM (by simp;omega)];simp
  ·by_cases h4:i<o+d.size
   ·rw [DR ⟨by omega,h4⟩,IM (by simp;omega),List.getElem_append_right (by simp;omega)];have:(cur.toList.take o).length=o:=by simp;omega
    simp only [this];rw [IK d (i-o) (by omega),Array.getElem_toList]
   ·rw [DU (by omega),List.getElem_append_right (by simp;omega)];simp only [DW,E0,Array.length_toList,List.getElem_drop];rw [Array.getElem_toList]
    congr 1
    omega
def aU.flat {μ:Mu} : ∀ (l:List Vl),(∀ v∈l,flat v=true)->aU μ l l:=fun l h=>
 ⟨rfl,fun i x y hx hy=>by rw [hx] at hy;cases hy;exact .flat (h x (EC hx))⟩
def sim_sorted (P:Program) {μ:Mu} {h:ae} {w:World} (s:cn μ h w) {b:Nat} {k:eW} (hb:h.n0<=b) (hg:h.get b=some k) {d:Array Vl} (hd:d.size=k.length) (hf : ∀ v∈d.toList,flat v=true) (h1:aN d.toList=true) {n:Nat} {os:Array Obj} {L:Loc} (hL:μ b=some L) :
  cn μ (h.set b d.toList) (grow (putRow id (Sort.ahead w n) L.blk L.off d) os)/\ca μ h w μ (h.set b d.toList) (grow (putRow id (Sort.ahead w n) L.blk L.off d) os):=by
 obtain ⟨L',arr,T,fr,e1,e2,e3,e4,e5,e6,e7,e8⟩:=s.new b k hb hg;rw [hL] at e1;cases e1;have hdl:d.toList.length=k.length:=by simpa using hd
 have hsp:splice k 0 d.toList=d.toList:=by simp [splice,hdl]
 obtain ⟨L',w',q1,q2,q3,q4⟩:=s.storeCells hb hg (off:=0) (xs:=d.toList) (ys:=d.toList) (by omega) (aU.flat _ hf) h1 P;rw [hL] at q1;cases q1;rw [hsp] at q3 q4;have hrow:=fp P L.blk (L.off+0) T fr d.toList 0 arr w e3 e6 (by rw [hdl];omega) (fun v hv=>by unfold aN at h1;rw [DX] at h1;exact h1 v hv);rw [q2] at hrow;have hw:w'=w.setRow L.blk (splice arr.toList (L.off+0+0) d.toList).toArray:=by injection hrow
 have hput:w'=putRow id w L.blk L.off d:=by rw [hw];exact AN e3 (by omega)
 have hheap:(grow (putRow id (Sort.ahead w n) L.blk L.off d) os).heap=w'.heap++os:=by rw [hput];rfl
 have hp : ∀ (B:Nat) (o:Obj),w'.heap[B]? = some o->(grow (putRow id (Sort.ahead w n) L.blk L.off d) os).heap[B]? = some o:=by intro B o hB;rw [hheap,Array.getElem?_append_left (DZ.1 hB).1];exact hB
 have hs:w'.heap.size<=(grow (putRow id (Sort.ahead w n) L.blk L.off d) os).heap.size:=by rw [hheap,Array.size_append];omega
 exact ⟨q3.rL hp hs,q4.rL hp hs (by rw [hput];rfl) (by rw [hput];rfl) (by rw [hput];rfl) (by rw [hput];exact HW _ _)⟩
def bq.yB {P : Program} {f : FuncId} {s : List Vl → ae → ba} (K : bq P f s) {fn : Func} (hfn : P.funcs[f]? = some fn) (hnm : (fn.name == "runtime.NumGoroutine") = false) (hbn : fn.body.isNone = false) (args : List Vl) (W : World) (hg : P.globals.size ≤ W.heap.size) (hb : cy W.heap.size args = true) (ha : aU (iE W) args args)
  (v:Vl) (hv:flat v=true) (hs : ∃ h',s args (dO W (view W))=some (v,h')):Calls P f args.toArray W fun e W'=>e = .returned v /\ ∃ q os',W'=Go.Sort.grow (W.drewN q) os':=by
 obtain ⟨h',hs⟩:=hs;have hno : ∀ B,¬Go.Abs.AA (iE W) (dO W (view W)) B:=by rintro B ⟨b,k,L,hb,hk,_⟩;rw [iw W _ hb] at hk;cases hk
 refine ((K.run args _ v h' hs hb (view_bd W) hg (iE W) W args (view_sim W) ?_ ha).fe hfn hnm hbn).mono ?_
 ·intro b hb _;have : ¬b<W.heap.size:=HY.2 hb;unfold iE;rw [DU this]
 ·rintro e W' ⟨μ',v',rfl,S,St,hv'⟩;rw [hv'.bG hv];refine ⟨rfl,W'.drawn-W.drawn,W'.heap.extract W.heap.size W'.heap.size,?_⟩;have hd:=St.drawn;have hz:=St.size;have hheap:W'.heap=W.heap++W'.heap.extract W.heap.size W'.heap.size:=by
   refine Array.ext_getElem? fun i => ?_;by_cases hi:i<W.heap.size
   ·rw [Array.getElem?_append_left hi];exact St.same i hi (hno i)
   ·rw [Array.getElem?_append_right (by omega),Array.getElem?_extract];by_cases h2:i<W'.heap.size
    ·rw [DR (by omega)]
     congr 1
     omega
    ·rw [DU (by omega),FX (by omega)]
  have e1:=St.os;have e2:=St.tape;have e3:=St.output;cases W with
  |mk heap tape drawn os output=>
   cases W' with
   |mk heap' tape' drawn' os' output'=>
    simp only at e1 e2 e3 hd hz hheap |-;subst e1 e2 e3;unfold Go.Sort.grow World.drewN;simp only
    congr 1
    omega
end
end Go.Abs
