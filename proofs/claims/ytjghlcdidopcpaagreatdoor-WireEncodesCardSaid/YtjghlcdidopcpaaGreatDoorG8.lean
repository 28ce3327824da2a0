/-
  A part of the proof, spaces and names shortened by a program (a claim may hold 1,500,000 bytes).
  Conditions: as each theorem states.
-/
import Derived.Test.YtjghlcdidopcpaaGreatDoorG7
import Derived.Test.YtjghlcdidopcpaaGreatDoorProg
import Derived.KernelRfl
namespace Go.Abs
structure Closed (v:Value):Prop where
 rel : ∀ μ v',aQ μ v v'→v'=v
 self : ∀ μ,aQ μ v v
 bd : ∀ n,cU n v=true
theorem Closed.flat {v:Value} (h:flat v=true):Closed v:=⟨fun _ _ r=>r.cI h,fun _ => .flat h,fun _=>bdV_flat h⟩
theorem Closed.list {xs:Array Value} (h : ∀ x∈xs.toList,Closed x) {μ:Mu} {ys:Array Value} (hs:xs.size=ys.size) (hr : ∀ (i:Nat) (x y:Value),xs[i]? = some x→ys[i]? = some y→aQ μ x y):ys=xs:=by
 refine Array.ext hs.symm fun i h1 h2 => ?_
 exact (h xs[i] (by simp)).rel μ _ (hr i _ _ (Array.getElem?_eq_getElem h2) (Array.getElem?_eq_getElem h1))
theorem Closed.agg {xs:Array Value} (h : ∀ x∈xs.toList,Closed x):Closed (.agg xs):=by
 refine ⟨fun μ v' r => ?_,fun μ => .agg rfl fun i x y hx hy => ?_,fun n => ?_⟩
 ·cases r with
  |flat hf=>rfl
  |agg hs hr=>rw [Closed.list h hs hr]
 ·rw [hx] at hy
  cases hy
  exact (h x (by rw [Array.mem_toList_iff];exact Array.mem_of_getElem? hx)).self μ
 ·show dy n xs.toList=true
  rw [dh]
  exact fun x hx=>(h x hx).bd n
theorem dG.closed_deep {P:Program} {C:av} (hC:bH P C) {f:FuncId} (S:List Value→Option Value)
  (hS : ∀ args v,S args=some v→bO args=true∧Closed v ∧ ∃ h1,C f args (bare P)=some (v,h1)) (hne : ∃ args v,S args=some v) :
  dG P f fun args h=>(S args).map fun v=>(v,h):=by
 have key : ∀ (args:List Value) (h:ak) (v:Value) (h':ak),((S args).map fun v=>(v,h))=some (v,h')→S args=some v∧h'=h:=by
  intro args h v h' e
  simp only [Option.map_eq_some_iff,Prod.mk.injEq] at e
  obtain ⟨w,h1,rfl,rfl⟩:=e
  exact ⟨h1,rfl⟩
 refine ⟨?_,?_,?_,?_⟩
 ·obtain ⟨args,v,e⟩:=hne
  obtain ⟨_,_,h1,hr⟩:=hS args v e
  exact hC.fn _ _ _ _ _ hr
 ·intro args h v h' e
  obtain ⟨_,rfl⟩:=key _ _ _ _ e
  exact cz.refl _
 ·intro args h v h' e _ hb
  obtain ⟨e1,rfl⟩:=key _ _ _ _ e
  exact ⟨(hS _ _ e1).2.1.bd _,hb⟩
 ·intro args h v h' e hba hbh hg μ w args' Sm hfr r
  obtain ⟨e1,rfl⟩:=key _ _ _ _ e
  obtain ⟨ha,hv,h1,hr⟩:=hS _ _ e1
  have hargs:=r.cI ha
  subst hargs
  have S0:de (μ.cut P.globals.size) (bare P) w:=by
   refine ⟨?_,?_,?_,Nat.le_trans hg Sm.size,?_⟩
   ·intro b cs _ hc;cases hc
   ·intro b k _ hk;rw [bare_get] at hk;cases hk
   ·intro b b' k k' L L' _ _ _ hk;rw [bare_get] at hk;cases hk
   ·intro b hb
    obtain ⟨L,h2,h3⟩:=Sm.low b (Nat.lt_of_lt_of_le hb hg)
    exact ⟨L,Mu.cut_some h2 hb,h3⟩
  have hno : ∀ B,¬Own (μ.cut P.globals.size) (bare P) B:=by
   rintro B ⟨b,k,L,_,hk,_⟩
   rw [bare_get] at hk;cases hk
  refine (hC.run _ _ _ _ _ hr (fD ha) (fun b k hk=>by rw [bare_get] at hk;cases hk) (Nat.le_refl _) (μ.cut P.globals.size) w _ S0
   (fun b hb _=>by
    have : ¬b<P.globals.size:=Nat.not_lt.2 hb
    simp [Mu.cut,this]) (bp.of_flat ha)).mono ?_
  rintro e w' ⟨μ1,v1,rfl,S1,St,hv1⟩
  have same : ∀ (B:Nat) (x:Obj),w.heap[B]? = some x→w'.heap[B]? = some x:=by
   intro B x hx
   rw [St.same B (Array.getElem?_eq_some_iff.1 hx).1 (hno B)];exact hx
  refine ⟨μ,v1,rfl,⟨?_,?_,Sm.inj,Nat.le_trans Sm.size St.size,Sm.low⟩,⟨fun _ _=>rfl,rfl,rfl,Nat.le_refl _,St.os,St.tape,St.output,St.size,fun B hB _=>St.same B hB (hno B),fun B hB => .inl hB⟩,?_⟩
  ·intro b cs hb hc
   obtain ⟨L,arr,T,fr,h2,h3,h4,h5,h6⟩:=Sm.bm b cs hb hc
   exact ⟨L,arr,T,fr,h2,h3,h4,same _ _ h5,h6⟩
  ·intro b k hb hk
   obtain ⟨L,arr,T,fr,h2,h3,h4,h5⟩:=Sm.new b k hb hk
   exact ⟨L,arr,T,fr,h2,h3,same _ _ h4,h5⟩
  ·rw [hv.rel _ _ hv1];exact hv.self _
end Go.Abs
namespace Go.Proofs.YtjghlcdidopcpaaGreatDoor
open Go Go.Abs
theorem mixed:Tryz.prog.follows .mixedOrders=true:=by kernel_rfl
noncomputable def okF (f:FuncId):Bool:=match Tryz.prog.funcs[f]? with|some fn=>fnOk Tryz.prog fn|none=>false
theorem okF_ok : ∀ f fn,okF f=true→Tryz.prog.funcs[f]? = some fn→fnOk Tryz.prog fn=true:=by
 intro f fn h1 h2
 unfold okF at h1
 rw [h2] at h1;exact h1
noncomputable def isTrue (o:Out):Bool:=match o with|some (.bool true,_)=>true|_=>false
theorem isTrue_eq {o:Out} (h:isTrue o=true) : ∃ h1,o=some (.bool true,h1):=by
 unfold isTrue at h
 split at h
 ·exact ⟨_,rfl⟩
 ·cases h
noncomputable def run0:av:=callF Tryz.prog okF (callL []) (fun _=>false) 100000 40
theorem run0_sound:bH Tryz.prog run0:=callF_sound (callL_sound [] (by simp)) (by decide) mixed okF_ok 40
theorem known_runs:isTrue (run0 12 [] (bare Tryz.prog))=true:=by kernel_rfl
def s12:List Value→ak→Out:=fun args h=>match args with | []=>some (.bool true,h)|_=>none
theorem c12:dG Tryz.prog 12 s12:=dG.closed run0_sound rfl (isTrue_eq known_runs)
def fmN:Nat→List UInt8×Nat×Nat×Nat×Nat
 | 1=>([112,105,110,103],95,96,97,98)
 | 2=>([97,99,107],95,96,97,98)
 | 3=>([112,105,110,103,114,101,113],95,99,100,101)
 | 4=>([115,117,109],111,112,113,114)
 | 5=>([105,116,101,109,115],111,115,116,117)
 | 6=>([99,108,97,105,109],102,103,104,105)
 | 7=>([102,101,116,99,104],102,103,104,105)
 | 8=>([111,102,102,101,114],106,107,108,109)
 | 9=>([108,97,99,107],102,103,104,105)
 | 10=>([105,110,115,116,97,108,108],106,107,108,109)
 | 11=>([115,116,111,114,101,100],118,119,120,121)
 | 12=>([97,115,107],102,103,104,105)
 | 13=>([107,101,101,112],102,103,104,105)
 |_=>([],0,0,0,0)
def fnV (n:Nat):Value:=if n=0 then .nilFunc else .func (.func n) #[] #[]
def cq (k:Nat):Bool:=Nat.ble 1 k&&Nat.ble k 13
theorem fnV_flat (n:Nat):flat (fnV n)=true:=by
 unfold fnV
 split<;>rfl
def fmC (k:Nat):List Value := [.string ⟨(fmN k).1.toArray⟩,fnV (fmN k).2.1,fnV (fmN k).2.2.1,fnV (fmN k).2.2.2.1,fnV (fmN k).2.2.2.2]
def formsC:List Value:=(List.range 14).flatMap fmC
noncomputable def forms77:Bool:=match run0 77 [] (bare Tryz.prog) with
 |some (v,_)=>fa v (.agg formsC.toArray)
 |none=>false
theorem forms_run:forms77=true:=by kernel_rfl
theorem fmC_flat (k:Nat) : ∀ v∈fmC k,flat v=true:=by
 intro v hv
 simp only [fmC,List.mem_cons,List.not_mem_nil,or_false] at hv
 rcases hv with rfl|rfl|rfl|rfl|rfl
 ·rfl
 all_goals exact fnV_flat _
def S77:List Value→Option Value
 | []=>some (.agg formsC.toArray)
 |_=>none
def s77:List Value→ak→Out:=fun args h=>(S77 args).map fun v=>(v,h)
theorem c77:dG Tryz.prog 77 s77:=dG.closed_deep run0_sound S77 (fun args v e=>by
 unfold S77 at e
 split at e
 ·cases e
  refine ⟨rfl,.agg fun x hx => ?_,?_⟩
  ·obtain ⟨k,_,hk⟩:=List.mem_flatMap.1 (show x∈formsC from hx)
   exact .flat (fmC_flat k x hk)
  ·have:=forms_run
   unfold forms77 at this
   split at this
   ·rename_i v h1 hr
    rw [veq_eq this] at hr
    exact ⟨h1,hr⟩
   ·cases this
 ·cases e) ⟨[],_,rfl⟩
end Go.Proofs.YtjghlcdidopcpaaGreatDoor

namespace Go.Proofs.YtjghlcdidopcpaaGreatDoor
open Go Go.Abs
noncomputable abbrev XL:List (FuncId×(List Value→ak→Out)) := [(12,s12),(77,s77)]
noncomputable abbrev XX:av:=callL XL
theorem XX_sound:bH Tryz.prog XX:=callL_sound _ (by
 intro p hp
 simp only [List.mem_cons,List.not_mem_nil,or_false] at hp
 rcases hp with rfl|rfl
 ·exact c12
 ·exact c77)
noncomputable def CW:av:=CC Tryz.prog XX
theorem globals4:Tryz.prog.globals.size=4:=by kernel_rfl
theorem aG {f:FuncId} {fn:Func} (i:bB Tryz.prog f fn) {args:List Value} {h:ak} {r:Value×ak} (hg:4≤h.n0) (hX:XX f args h=none) (e:aY Tryz.prog CW fn args h=some r):CW f args h=some r:=
 CC_body i (by rw [globals4];exact hg) hX e
theorem r77 (h:ak):CW 77 [] h=some (.agg formsC.toArray,h):=CC_known (show XX 77 [] h=some (.agg formsC.toArray,h) from rfl)
theorem r12 (h:ak):CW 12 [] h=some (.bool true,h):=CC_known (show XX 12 [] h=some (.bool true,h) from rfl)
abbrev Old (h h':ak):Prop:=Kept h h' (fun _=>False)
theorem Old.get {h h':ak} (o:Old h h') {b:Nat} {k:dA} (e:h.get b=some k):h'.get b=some k:=(Kept.get o b (h.bT e) (fun h=>h)).trans e
theorem aP {γ:Type} {o o':Out} {f:Value→ak→Option γ} (h:o=o'):ae o f=ae o' f:=by rw [h]
inductive Kd where
 |u8
 |i (k:IntKind)
 |b
def Kd.has:Kd→Value→Prop
 | .u8,v => ∃ n:Nat,v = .int .u8 n∧n<256
 | .i k,v => ∃ n:Int,v = .int k n∧(Lit.int k n).wf=true
 | .b,v => ∃ t:Bool,v = .bool t
theorem Kd.has.cell {k:Kd} {v:Value} (h:k.has v):isHole v=false∧v.oneCell'=true∧flat v=true∧v.cells = #[v]:=by
 cases k with
 |u8=>obtain ⟨n,rfl,_⟩:=h;exact ⟨rfl,rfl,rfl,rfl⟩
 |i k=>obtain ⟨n,rfl,_⟩:=h;exact ⟨rfl,rfl,rfl,rfl⟩
 |b=>obtain ⟨t,rfl⟩:=h;exact ⟨rfl,rfl,rfl,rfl⟩
def Typed (ks:List Kd) (cs:List Value):Prop:=cs.length=ks.length ∧ ∀ (j:Nat) (k:Kd),ks[j]? = some k → ∃ v,cs[j]? = some v∧k.has v
def TypedN (ks:List Kd) (n:Nat) (cs:List Value):Prop:=cs.length=n*ks.length ∧ ∀ i,i<n→Typed ks ((cs.drop (i*ks.length)).take ks.length)
theorem Typed.cell {ks:List Kd} {cs:List Value} (h:Typed ks cs) {j:Nat} {v:Value} (hv:cs[j]? = some v):isHole v=false∧v.oneCell'=true∧flat v=true∧v.cells = #[v]:=by
 have hj:=(List.getElem?_eq_some_iff.1 hv).1
 have hj':j<ks.length:=by rw [←h.1];exact hj
 obtain ⟨w,hw,hk⟩:=h.2 j _ (List.getElem?_eq_getElem hj')
 rw [hv] at hw
 cases hw
 exact hk.cell
theorem Typed.all {ks:List Kd} {cs:List Value} (h:Typed ks cs):Abs.bA cs=true∧aS cs=true∧bO cs=true:=by
 have key : ∀ v∈cs,isHole v=false∧v.oneCell'=true∧flat v=true:=fun v hv=>by
  obtain ⟨j,hj⟩:=List.mem_iff_getElem?.1 hv
  obtain ⟨a,b,c,_⟩:=h.cell hj
  exact ⟨a,b,c⟩
 refine ⟨?_,?_,?_⟩
 ·unfold Abs.bA
  rw [List.all_eq_true]
  exact fun v hv=>by rw [(key v hv).1];rfl
 ·unfold aS
  rw [List.all_eq_true]
  exact fun v hv=>(key v hv).2.1
 ·unfold bO
  rw [List.all_eq_true]
  exact fun v hv=>(key v hv).2.2
theorem TypedN.all {ks:List Kd} {n:Nat} {cs:List Value} (h:TypedN ks n cs):Abs.bA cs=true∧aS cs=true:=by
 have key : ∀ v∈cs,isHole v=false∧v.oneCell'=true:=fun v hv=>by
  obtain ⟨j,hj⟩:=List.mem_iff_getElem?.1 hv
  have hj2:=(List.getElem?_eq_some_iff.1 hj).1
  rw [h.1] at hj2
  have hpos:0<ks.length:=Nat.pos_of_ne_zero (fun e=>by rw [e] at hj2;omega)
  have hi:j/ks.length<n:=(Nat.div_lt_iff_lt_mul hpos).2 hj2
  have h3:=(h.2 _ hi).cell (j:=j%ks.length) (v:=v) (by
   have hm:=Nat.mod_lt j hpos
   rw [List.getElem?_take,if_pos hm,List.getElem?_drop]
   have:=Nat.div_add_mod j ks.length
   rw [Nat.mul_comm] at this
   rw [this];exact hj)
  exact ⟨h3.1,h3.2.1⟩
 refine ⟨?_,?_⟩
 ·unfold Abs.bA
  rw [List.all_eq_true]
  exact fun v hv=>by rw [(key v hv).1];rfl
 ·unfold aS
  rw [List.all_eq_true]
  exact fun v hv=>(key v hv).2
def EqT (t:TypeId) (ks:List Kd):Prop := ∀ xs ys:List Value,Typed ks xs→Typed ks ys → ∃ r:Bool,(r=true↔xs=ys)∧bin Tryz.prog .eql t (.agg xs.toArray) (.agg ys.toArray)=some (.bool r)∧bin Tryz.prog .neq t (.agg xs.toArray) (.agg ys.toArray)=some (.bool !r)
def fF:List Kd:=List.replicate 32 .u8
def memK:List Kd := [.i .u64,.u8]
def recK:List Kd := .u8::(List.replicate 32 .u8 ++ [.i .i64,.i .u64,.i .u64,.b,.i .i64,.i .i64])
theorem size1:cJ Tryz.prog 5=some 1:=by kernel_rfl
theorem size32:cJ Tryz.prog 28=some 32:=by kernel_rfl
theorem ground_agg {xs:List Value} (h:bO xs=true):ground (.agg xs.toArray)=true:=by
 show bO xs.toArray.toList=true
 exact h
theorem dig_get {xs:List Value} (h:Typed fF xs) {i:Nat} (hi:i<32) : ∃ n:Nat,xs[i]? = some (.int .u8 n)∧n<256:=by
 obtain ⟨v,h1,n,rfl,h2⟩:=h.2 i .u8 (by unfold fF;rw [List.getElem?_replicate,if_pos hi])
 exact ⟨n,h1,h2⟩
theorem dig_run {d:Nat} {xs ys:List Value} (hx:Typed fF xs) (hy:Typed fF ys) : ∃ r:Bool,(r=true↔xs=ys)∧bL Tryz.prog (Op.equalIn (d+2) 28 (.agg xs.toArray) (.agg ys.toArray))=some r:=by
 obtain ⟨r,h1,h2⟩:=pr_eq_arr (P:=Tryz.prog) (d:=d) (m:=32) (t:=28) (e:=5) (k := .u8) (j := .u8) (xs:=xs.toArray) (ys:=ys.toArray) Tryz.underlying28 size1 Tryz.underlying5 (fun i hi=>by
  obtain ⟨a,ha,_⟩:=dig_get hx hi
  obtain ⟨b,hb,_⟩:=dig_get hy hi
  exact ⟨a,b,by simpa using ha,by simpa using hb⟩)
 refine ⟨r,h1.trans ⟨fun hh => ?_,fun hh i hi=>by rw [hh]⟩,h2⟩
 have lx:xs.length=32:=hx.1
 have ly:ys.length=32:=hy.1
 refine List.ext_getElem? fun i => ?_
 by_cases hi:i<32
 ·simpa using hh i hi
 ·rw [List.getElem?_eq_none (by omega),List.getElem?_eq_none (by omega)]
theorem eq28:EqT 28 fF:=by
 intro xs ys hx hy
 obtain ⟨r,h1,h2⟩:=dig_run (d:=9998) hx hy
 exact ⟨r,h1,bin_agg (by kernel_rfl) (ground_agg hx.all.2.2) (ground_agg hy.all.2.2) h2⟩
theorem eq58:EqT 58 memK:=by
 intro xs ys hx hy
 have two : ∀ {l:List Value},Typed memK l → ∃ (a:Int) (b:Nat),l = [.int .u64 a,.int .u8 b]:=by
  intro l h
  have hl:l.length=2:=h.1
  match l,hl with
  | [v,w],_=>
    obtain ⟨_,h1,a,rfl,_⟩:=h.2 0 (.i .u64) rfl
    obtain ⟨_,h2,b,rfl,_⟩:=h.2 1 .u8 rfl
    cases h1;cases h2
    exact ⟨a,b,rfl⟩
 obtain ⟨a,b,rfl⟩:=two hx
 obtain ⟨c,d,rfl⟩:=two hy
 have hr:bL Tryz.prog (Op.equalIn 10000 58 (.agg [Value.int .u64 a,.int .u8 b].toArray) (.agg [Value.int .u64 c,.int .u8 d].toArray))=some (decide (a=c)&&decide ((b:Int)=d)):=by
  rw [pr_eq_struct (P:=Tryz.prog) (d:=9999) Tryz.underlying58 (by kernel_rfl)]
  simp only [eqF]
  rw [if_pos (by decide),if_pos (by decide)]
  rw [bS (v := .int .u64 a) Tryz.underlying25 rfl,bS (v := .int .u64 c) Tryz.underlying25 rfl,bS (v := .int .u8 b) Tryz.underlying56 rfl,bS (v := .int .u8 d) Tryz.underlying56 rfl]
  simp only [Option.bind_some,pr_eq_int (d:=9998) Tryz.underlying25,pr_eq_int (d:=9998) Tryz.underlying56]
  by_cases e1:a=c<;>by_cases e2:(b:Int)=d<;>simp [e1,e2]
 refine ⟨_,?_,bin_agg (by kernel_rfl) rfl rfl hr⟩
 simp
end Go.Proofs.YtjghlcdidopcpaaGreatDoor

namespace Go.Proofs.YtjghlcdidopcpaaGreatDoor
open Go Go.Abs
theorem rec_form {l:List Value} (h:Typed recK l) : ∃ (a:Nat) (o:List Value) (b c d:Int) (e:Bool) (f g:Int),l = .int .u8 a::(o ++ [.int .i64 b,.int .u64 c,.int .u64 d,.bool e,.int .i64 f,.int .i64 g])∧Typed fF o∧a<256∧(Lit.int .i64 b).wf=true∧(Lit.int .u64 c).wf=true∧(Lit.int .u64 d).wf=true∧(Lit.int .i64 f).wf=true∧(Lit.int .i64 g).wf=true:=by
 have hl:l.length=39:=h.1
 obtain ⟨_,h0,a,rfl,wa⟩:=h.2 0 .u8 rfl
 obtain ⟨_,h33,b,rfl,wb⟩:=h.2 33 (.i .i64) rfl
 obtain ⟨_,h34,c,rfl,wc⟩:=h.2 34 (.i .u64) rfl
 obtain ⟨_,h35,d,rfl,wd⟩:=h.2 35 (.i .u64) rfl
 obtain ⟨_,h36,e,rfl⟩:=h.2 36 .b rfl
 obtain ⟨_,h37,f,rfl,wf⟩:=h.2 37 (.i .i64) rfl
 obtain ⟨_,h38,g,rfl,wg⟩:=h.2 38 (.i .i64) rfl
 refine ⟨a,(l.drop 1).take 32,b,c,d,e,f,g,?_,?_,wa,wb,wc,wd,wf,wg⟩
 ·refine List.ext_getElem? fun i => ?_
  have hlo:((l.drop 1).take 32).length=32:=by rw [List.length_take,List.length_drop];omega
  rcases i with _|i
  ·exact h0
  ·rw [List.getElem?_cons_succ]
   by_cases hi:i<32
   ·rw [List.getElem?_append_left (by omega),List.getElem?_take,if_pos hi,List.getElem?_drop,Nat.add_comm]
   ·rw [List.getElem?_append_right (by omega),hlo]
    rcases (show i=32∨i=33∨i=34∨i=35∨i=36∨i=37∨38≤i by omega) with rfl|rfl|rfl|rfl|rfl|rfl|h38'
    ·exact h33
    ·exact h34
    ·exact h35
    ·exact h36
    ·exact h37
    ·exact h38
    ·rw [List.getElem?_eq_none (by omega),List.getElem?_eq_none (by simp;omega)]
 ·refine ⟨by rw [List.length_take,List.length_drop,hl];rfl,fun j k hk => ?_⟩
  have hj:j<32:=by
   have:=(List.getElem?_eq_some_iff.1 hk).1
   simpa [fF] using this
  have hk':k = .u8:=by
   unfold fF at hk
   rw [List.getElem?_replicate,if_pos hj] at hk
   exact (Option.some.inj hk).symm
  subst hk'
  obtain ⟨v,hv,hh⟩:=h.2 (j+1) .u8 (by
   unfold recK
   rw [List.getElem?_cons_succ,List.getElem?_append_left (by simpa using hj),List.getElem?_replicate,if_pos hj])
  exact ⟨v,by rw [List.getElem?_take,if_pos hj,List.getElem?_drop,Nat.add_comm];exact hv,hh⟩
theorem rec_at {a b c d e f:Value} {x:Value} {o:List Value} (ho:o.length=32) (i:Nat):(x::(o ++ [a,b,c,d,e,f])).toArray[33+i]? = [a,b,c,d,e,f][i]? := by
 rw [List.getElem?_toArray,show 33+i=(32+i)+1 by omega,List.getElem?_cons_succ,List.getElem?_append_right (by omega),ho,Nat.add_sub_cancel_left]
theorem rec_obj {x:Value} {o t:List Value} (ho:o.length=32):(x::(o++t)).toArray.extract 1 (1+32)=o.toArray:=by
 rw [List.extract_toArray]
 congr 1
 show ((x::(o++t)).drop 1).take (1+32-1)=o
 rw [List.drop_succ_cons,List.drop_zero,show 1+32-1=32 from rfl,←ho,List.take_left']
 rfl
theorem eq61:EqT 61 recK:=by
 intro xs ys hx hy
 have fx:=hx.all.2.2
 have fy:=hy.all.2.2
 obtain ⟨a,o,b,c,d,e,f,g,rfl,ho,_⟩:=rec_form hx
 obtain ⟨a',o',b',c',d',e',f',g',rfl,ho',_⟩:=rec_form hy
 obtain ⟨r,hr,hrun⟩:=dig_run (d:=9997) ho ho'
 have l1:o.length=32:=ho.1
 have l2:o'.length=32:=ho'.1
 have hp:bL Tryz.prog (Op.equalIn 10000 61 (.agg (Value.int .u8 a::(o ++ [.int .i64 b,.int .u64 c,.int .u64 d,.bool e,.int .i64 f,.int .i64 g])).toArray) (.agg (Value.int .u8 a'::(o' ++ [.int .i64 b',.int .u64 c',.int .u64 d',.bool e',.int .i64 f',.int .i64 g'])).toArray))
   = some (decide ((a:Int)=a')&&(r&&(decide (b=b')&&(decide (c=c')&&(decide (d=d')&&(decide (e=e')&&(decide (f=f')&&decide (g=g')))))))):=by
  rw [pr_eq_struct (P:=Tryz.prog) (d:=9999) Tryz.underlying61 (by kernel_rfl)]
  simp only [eqF]
  rw [if_pos (by decide),if_pos (by decide),if_pos (by decide),if_pos (by decide),if_pos (by decide),if_pos (by decide),if_pos (by decide),if_pos (by decide)]
  rw [bS (v := .int .u8 a) Tryz.underlying59 rfl,bS (v := .int .u8 a') Tryz.underlying59 rfl,pr_part_arr Tryz.underlying28 size32,pr_part_arr Tryz.underlying28 size32,rec_obj l1,rec_obj l2]
  rw [bS (v := .int .i64 b) Tryz.underlying3 (rec_at l1 0),bS (v := .int .i64 b') Tryz.underlying3 (rec_at l2 0),bS (v := .int .u64 c) Tryz.underlying25 (rec_at l1 1),bS (v := .int .u64 c') Tryz.underlying25 (rec_at l2 1),
   bS (v := .int .u64 d) Tryz.underlying25 (rec_at l1 2),bS (v := .int .u64 d') Tryz.underlying25 (rec_at l2 2),pr_part_bool (v := .bool e) Tryz.underlying4 (rec_at l1 3),pr_part_bool (v := .bool e') Tryz.underlying4 (rec_at l2 3),
   bS (v := .int .i64 f) Tryz.underlying3 (rec_at l1 4),bS (v := .int .i64 f') Tryz.underlying3 (rec_at l2 4),bS (v := .int .i64 g) Tryz.underlying3 (rec_at l1 5),bS (v := .int .i64 g') Tryz.underlying3 (rec_at l2 5)]
  simp only [Option.bind_some,pr_eq_int (d:=9998) Tryz.underlying59,pr_eq_int (d:=9998) Tryz.underlying3,pr_eq_int (d:=9998) Tryz.underlying25,pr_eq_bool (d:=9998) Tryz.underlying4,hrun]
  by_cases e1:(a:Int)=a'
  ·cases r
   ·simp [e1]
   ·by_cases e2:b=b'<;>by_cases e3:c=c'<;>by_cases e4:d=d'<;>by_cases e5:e=e'<;>by_cases e6:f=f'<;>by_cases e7:g=g'<;>simp [e1,e2,e3,e4,e5,e6,e7]
  ·simp [e1]
 refine ⟨_,?_,bin_agg (by kernel_rfl) (ground_agg fx) (ground_agg fy) hp⟩
 constructor
 ·intro h
  simp only [Bool.and_eq_true,decide_eq_true_eq] at h
  obtain ⟨h1,h2,h3,h4,h5,h6,h7,h8⟩:=h
  rw [h1,hr.1 h2,h3,h4,h5,h6,h7,h8]
 ·intro h
  rw [List.cons.injEq] at h
  obtain ⟨h1,h2⟩:=h
  have h3:=List.append_inj h2 (by omega)
  obtain ⟨h4,h5⟩:=h3
  simp only [List.cons.injEq,Value.int.injEq,Value.bool.injEq,true_and,and_true] at h5 h1
  simp only [Bool.and_eq_true,decide_eq_true_eq]
  exact ⟨h1,hr.2 h4,h5⟩
end Go.Proofs.YtjghlcdidopcpaaGreatDoor

namespace Go.Proofs.YtjghlcdidopcpaaGreatDoor
open Go Go.Abs
noncomputable def k53_4 (C:av) (e:Env) (h:ak):Out:=br Tryz.prog C (partOf Tryz.f53 [1,1,1]) e h (ax Tryz.prog Tryz.f53.results.toList) (ax Tryz.prog Tryz.f53.results.toList) (fun _ _ _=>none)
noncomputable def b53_6 (C:av) (i:Nat) (e:Env) (h:ak):Out:=if i=0 then (k53_4 C) e h else (fun _ _ _=>none) i e h
noncomputable def t53 (C:av) (x0 x1:Value) (h:ak):Out:=
 ae (some ((.bool false),h)) fun y4 h=>
 ae (some (x0,h)) fun y6 h=>
 ae (pu (bE y6) h) fun y7 h=>
 ae (some (x1,h)) fun y8 h=>
 ae (pu (bE y8) h) fun y9 h=>
 ae (pu (bin Tryz.prog .neq 3 y7 y9) h) fun y10 h=>
 (match y10 with
 | .bool true=>
 ae (some ((.bool false),h)) fun y4_1 h=>
 some (y4_1,h)
 | .bool false=>
 ae (some (x0,h)) fun y11 h=>
 ae (pu (bE y11) h) fun y12 h=>
 ae (some ((.int .i64 0),h)) fun y13 h=>
 ei (iter (aL Tryz.prog C (partOf Tryz.f53 [1,1,0,1,0,0])) rounds (aX 26 (up (bs [x0,x1]) [(4,y4),(6,y6),(7,y7),(8,y8),(9,y9),(10,y10),(11,y11),(12,y12),(13,y13)])) h) (ax Tryz.prog Tryz.f53.results.toList) (b53_6 C)
 |_=>none)
noncomputable def t53k53_4 (C:av) (x:Nat→Value) (h:ak):Out:=
 ae (some ((.bool true),h)) fun y4 h=>
 some (y4,h)
noncomputable def t53l53_11010 (C:av) (x:Nat→Value) (h:ak):Option (Ex×Env×ak):=
 ae (pu (bin Tryz.prog .lss 3 (x 13) (x 12)) h) fun y14 h=>
 (match y14 with
 | .bool true=>
 ae (some ((x 13),h)) fun y15 h=>
 ae (some (y15,h)) fun y5 h=>
 ae (some ((x 0),h)) fun y16 h=>
 ae (some (y5,h)) fun y17 h=>
 ae (pu (cD 2 y16 y17) h) fun y18 h=>
 ae (bP 2 y18 h) fun y19 h=>
 ae (some ((x 1),h)) fun y20 h=>
 ae (some (y5,h)) fun y21 h=>
 ae (pu (cD 2 y20 y21) h) fun y22 h=>
 ae (bP 2 y22 h) fun y23 h=>
 ae (pu (bin Tryz.prog .neq 58 y19 y23) h) fun y24 h=>
 (match y24 with
 | .bool true=>
 ae (some ((.bool false),h)) fun y4 h=>
 some (.ret,(aX 26 (up x [(4,y4),(5,y5),(14,y14),(15,y15),(16,y16),(17,y17),(18,y18),(19,y19),(20,y20),(21,y21),(22,y22),(23,y23),(24,y24)])),h)
 | .bool false=>
 ae (pu (bin Tryz.prog .add 3 (x 13) (.int .i64 1)) h) fun y25 h=>
 ae (some (y25,h)) fun y13 h=>
 some (.normal,(aX 26 (up x [(5,y5),(13,y13),(14,y14),(15,y15),(16,y16),(17,y17),(18,y18),(19,y19),(20,y20),(21,y21),(22,y22),(23,y23),(24,y24),(25,y25)])),h)
 |_=>none)
 | .bool false=>
 some (.exit 0,(aX 26 (up x [(14,y14)])),h)
 |_=>none)
theorem t53_eq (C:av) (x0 x1:Value) (h:ak):aY Tryz.prog C Tryz.f53 [x0,x1] h=t53 C x0 x1 h:=
 (aI Tryz.prog C Tryz.f53 [x0,x1] h (by kernel_rfl)).trans (by kernel_rfl)
theorem t53k53_4_eq (C:av) (x:Nat→Value) (h:ak):k53_4 C (aX 26 x) h=t53k53_4 C x h:=
 bq (b:=(partOf Tryz.f53 [1,1,1])) (kE:=(ax Tryz.prog Tryz.f53.results.toList)) (rE:=(ax Tryz.prog Tryz.f53.results.toList)) (xE:=(fun _ _ _=>none)) (T:=t53k53_4 C) (fun x h=>by kernel_rfl) x h
theorem t53l53_11010_eq (C:av) (x:Nat→Value) (h:ak):aL Tryz.prog C (partOf Tryz.f53 [1,1,0,1,0,0]) (aX 26 x) h=t53l53_11010 C x h:=
 bn (T:=t53l53_11010 C) (fun x h=>by kernel_rfl) x h
noncomputable def k54_4 (C:av) (e:Env) (h:ak):Out:=br Tryz.prog C (partOf Tryz.f54 [1,1,1]) e h (ax Tryz.prog Tryz.f54.results.toList) (ax Tryz.prog Tryz.f54.results.toList) (fun _ _ _=>none)
noncomputable def b54_6 (C:av) (i:Nat) (e:Env) (h:ak):Out:=if i=0 then (k54_4 C) e h else (fun _ _ _=>none) i e h
noncomputable def t54 (C:av) (x0 x1:Value) (h:ak):Out:=
 ae (some ((.bool false),h)) fun y4 h=>
 ae (some (x0,h)) fun y6 h=>
 ae (pu (bE y6) h) fun y7 h=>
 ae (some (x1,h)) fun y8 h=>
 ae (pu (bE y8) h) fun y9 h=>
 ae (pu (bin Tryz.prog .neq 3 y7 y9) h) fun y10 h=>
 (match y10 with
 | .bool true=>
 ae (some ((.bool false),h)) fun y4_1 h=>
 some (y4_1,h)
 | .bool false=>
 ae (some (x0,h)) fun y11 h=>
 ae (pu (bE y11) h) fun y12 h=>
 ae (some ((.int .i64 0),h)) fun y13 h=>
 ei (iter (aL Tryz.prog C (partOf Tryz.f54 [1,1,0,1,0,0])) rounds (aX 26 (up (bs [x0,x1]) [(4,y4),(6,y6),(7,y7),(8,y8),(9,y9),(10,y10),(11,y11),(12,y12),(13,y13)])) h) (ax Tryz.prog Tryz.f54.results.toList) (b54_6 C)
 |_=>none)
noncomputable def t54k54_4 (C:av) (x:Nat→Value) (h:ak):Out:=
 ae (some ((.bool true),h)) fun y4 h=>
 some (y4,h)
noncomputable def t54l54_11010 (C:av) (x:Nat→Value) (h:ak):Option (Ex×Env×ak):=
 ae (pu (bin Tryz.prog .lss 3 (x 13) (x 12)) h) fun y14 h=>
 (match y14 with
 | .bool true=>
 ae (some ((x 13),h)) fun y15 h=>
 ae (some (y15,h)) fun y5 h=>
 ae (some ((x 0),h)) fun y16 h=>
 ae (some (y5,h)) fun y17 h=>
 ae (pu (cD 1 y16 y17) h) fun y18 h=>
 ae (aK y18 h) fun y19 h=>
 ae (some ((x 1),h)) fun y20 h=>
 ae (some (y5,h)) fun y21 h=>
 ae (pu (cD 1 y20 y21) h) fun y22 h=>
 ae (aK y22 h) fun y23 h=>
 ae (pu (bin Tryz.prog .neq 5 y19 y23) h) fun y24 h=>
 (match y24 with
 | .bool true=>
 ae (some ((.bool false),h)) fun y4 h=>
 some (.ret,(aX 26 (up x [(4,y4),(5,y5),(14,y14),(15,y15),(16,y16),(17,y17),(18,y18),(19,y19),(20,y20),(21,y21),(22,y22),(23,y23),(24,y24)])),h)
 | .bool false=>
 ae (pu (bin Tryz.prog .add 3 (x 13) (.int .i64 1)) h) fun y25 h=>
 ae (some (y25,h)) fun y13 h=>
 some (.normal,(aX 26 (up x [(5,y5),(13,y13),(14,y14),(15,y15),(16,y16),(17,y17),(18,y18),(19,y19),(20,y20),(21,y21),(22,y22),(23,y23),(24,y24),(25,y25)])),h)
 |_=>none)
 | .bool false=>
 some (.exit 0,(aX 26 (up x [(14,y14)])),h)
 |_=>none)
theorem t54_eq (C:av) (x0 x1:Value) (h:ak):aY Tryz.prog C Tryz.f54 [x0,x1] h=t54 C x0 x1 h:=
 (aI Tryz.prog C Tryz.f54 [x0,x1] h (by kernel_rfl)).trans (by kernel_rfl)
theorem t54k54_4_eq (C:av) (x:Nat→Value) (h:ak):k54_4 C (aX 26 x) h=t54k54_4 C x h:=
 bq (b:=(partOf Tryz.f54 [1,1,1])) (kE:=(ax Tryz.prog Tryz.f54.results.toList)) (rE:=(ax Tryz.prog Tryz.f54.results.toList)) (xE:=(fun _ _ _=>none)) (T:=t54k54_4 C) (fun x h=>by kernel_rfl) x h
theorem t54l54_11010_eq (C:av) (x:Nat→Value) (h:ak):aL Tryz.prog C (partOf Tryz.f54 [1,1,0,1,0,0]) (aX 26 x) h=t54l54_11010 C x h:=
 bn (T:=t54l54_11010 C) (fun x h=>by kernel_rfl) x h
noncomputable def k55_4 (C:av) (e:Env) (h:ak):Out:=br Tryz.prog C (partOf Tryz.f55 [1,1,1]) e h (ax Tryz.prog Tryz.f55.results.toList) (ax Tryz.prog Tryz.f55.results.toList) (fun _ _ _=>none)
noncomputable def b55_6 (C:av) (i:Nat) (e:Env) (h:ak):Out:=if i=0 then (k55_4 C) e h else (fun _ _ _=>none) i e h
noncomputable def t55 (C:av) (x0 x1:Value) (h:ak):Out:=
 ae (some ((.bool false),h)) fun y4 h=>
 ae (some (x0,h)) fun y6 h=>
 ae (pu (bE y6) h) fun y7 h=>
 ae (some (x1,h)) fun y8 h=>
 ae (pu (bE y8) h) fun y9 h=>
 ae (pu (bin Tryz.prog .neq 3 y7 y9) h) fun y10 h=>
 (match y10 with
 | .bool true=>
 ae (some ((.bool false),h)) fun y4_1 h=>
 some (y4_1,h)
 | .bool false=>
 ae (some (x0,h)) fun y11 h=>
 ae (pu (bE y11) h) fun y12 h=>
 ae (some ((.int .i64 0),h)) fun y13 h=>
 ei (iter (aL Tryz.prog C (partOf Tryz.f55 [1,1,0,1,0,0])) rounds (aX 26 (up (bs [x0,x1]) [(4,y4),(6,y6),(7,y7),(8,y8),(9,y9),(10,y10),(11,y11),(12,y12),(13,y13)])) h) (ax Tryz.prog Tryz.f55.results.toList) (b55_6 C)
 |_=>none)
noncomputable def t55k55_4 (C:av) (x:Nat→Value) (h:ak):Out:=
 ae (some ((.bool true),h)) fun y4 h=>
 some (y4,h)
noncomputable def t55l55_11010 (C:av) (x:Nat→Value) (h:ak):Option (Ex×Env×ak):=
 ae (pu (bin Tryz.prog .lss 3 (x 13) (x 12)) h) fun y14 h=>
 (match y14 with
 | .bool true=>
 ae (some ((x 13),h)) fun y15 h=>
 ae (some (y15,h)) fun y5 h=>
 ae (some ((x 0),h)) fun y16 h=>
 ae (some (y5,h)) fun y17 h=>
 ae (pu (cD 39 y16 y17) h) fun y18 h=>
 ae (bP 39 y18 h) fun y19 h=>
 ae (some ((x 1),h)) fun y20 h=>
 ae (some (y5,h)) fun y21 h=>
 ae (pu (cD 39 y20 y21) h) fun y22 h=>
 ae (bP 39 y22 h) fun y23 h=>
 ae (pu (bin Tryz.prog .neq 61 y19 y23) h) fun y24 h=>
 (match y24 with
 | .bool true=>
 ae (some ((.bool false),h)) fun y4 h=>
 some (.ret,(aX 26 (up x [(4,y4),(5,y5),(14,y14),(15,y15),(16,y16),(17,y17),(18,y18),(19,y19),(20,y20),(21,y21),(22,y22),(23,y23),(24,y24)])),h)
 | .bool false=>
 ae (pu (bin Tryz.prog .add 3 (x 13) (.int .i64 1)) h) fun y25 h=>
 ae (some (y25,h)) fun y13 h=>
 some (.normal,(aX 26 (up x [(5,y5),(13,y13),(14,y14),(15,y15),(16,y16),(17,y17),(18,y18),(19,y19),(20,y20),(21,y21),(22,y22),(23,y23),(24,y24),(25,y25)])),h)
 |_=>none)
 | .bool false=>
 some (.exit 0,(aX 26 (up x [(14,y14)])),h)
 |_=>none)
theorem t55_eq (C:av) (x0 x1:Value) (h:ak):aY Tryz.prog C Tryz.f55 [x0,x1] h=t55 C x0 x1 h:=
 (aI Tryz.prog C Tryz.f55 [x0,x1] h (by kernel_rfl)).trans (by kernel_rfl)
theorem t55k55_4_eq (C:av) (x:Nat→Value) (h:ak):k55_4 C (aX 26 x) h=t55k55_4 C x h:=
 bq (b:=(partOf Tryz.f55 [1,1,1])) (kE:=(ax Tryz.prog Tryz.f55.results.toList)) (rE:=(ax Tryz.prog Tryz.f55.results.toList)) (xE:=(fun _ _ _=>none)) (T:=t55k55_4 C) (fun x h=>by kernel_rfl) x h
theorem t55l55_11010_eq (C:av) (x:Nat→Value) (h:ak):aL Tryz.prog C (partOf Tryz.f55 [1,1,0,1,0,0]) (aX 26 x) h=t55l55_11010 C x h:=
 bn (T:=t55l55_11010 C) (fun x h=>by kernel_rfl) x h
noncomputable def k86_4 (C:av) (e:Env) (h:ak):Out:=br Tryz.prog C (partOf Tryz.f86 [1,1,1]) e h (ax Tryz.prog Tryz.f86.results.toList) (ax Tryz.prog Tryz.f86.results.toList) (fun _ _ _=>none)
noncomputable def b86_6 (C:av) (i:Nat) (e:Env) (h:ak):Out:=if i=0 then (k86_4 C) e h else (fun _ _ _=>none) i e h
noncomputable def t86 (C:av) (x0 x1:Value) (h:ak):Out:=
 ae (some ((.bool false),h)) fun y4 h=>
 ae (some (x0,h)) fun y6 h=>
 ae (pu (bE y6) h) fun y7 h=>
 ae (some (x1,h)) fun y8 h=>
 ae (pu (bE y8) h) fun y9 h=>
 ae (pu (bin Tryz.prog .neq 3 y7 y9) h) fun y10 h=>
 (match y10 with
 | .bool true=>
 ae (some ((.bool false),h)) fun y4_1 h=>
 some (y4_1,h)
 | .bool false=>
 ae (some (x0,h)) fun y11 h=>
 ae (pu (bE y11) h) fun y12 h=>
 ae (some ((.int .i64 0),h)) fun y13 h=>
 ei (iter (aL Tryz.prog C (partOf Tryz.f86 [1,1,0,1,0,0])) rounds (aX 26 (up (bs [x0,x1]) [(4,y4),(6,y6),(7,y7),(8,y8),(9,y9),(10,y10),(11,y11),(12,y12),(13,y13)])) h) (ax Tryz.prog Tryz.f86.results.toList) (b86_6 C)
 |_=>none)
noncomputable def t86k86_4 (C:av) (x:Nat→Value) (h:ak):Out:=
 ae (some ((.bool true),h)) fun y4 h=>
 some (y4,h)
noncomputable def t86l86_11010 (C:av) (x:Nat→Value) (h:ak):Option (Ex×Env×ak):=
 ae (pu (bin Tryz.prog .lss 3 (x 13) (x 12)) h) fun y14 h=>
 (match y14 with
 | .bool true=>
 ae (some ((x 13),h)) fun y15 h=>
 ae (some (y15,h)) fun y5 h=>
 ae (some ((x 0),h)) fun y16 h=>
 ae (some (y5,h)) fun y17 h=>
 ae (pu (cD 32 y16 y17) h) fun y18 h=>
 ae (bP 32 y18 h) fun y19 h=>
 ae (some ((x 1),h)) fun y20 h=>
 ae (some (y5,h)) fun y21 h=>
 ae (pu (cD 32 y20 y21) h) fun y22 h=>
 ae (bP 32 y22 h) fun y23 h=>
 ae (pu (bin Tryz.prog .neq 28 y19 y23) h) fun y24 h=>
 (match y24 with
 | .bool true=>
 ae (some ((.bool false),h)) fun y4 h=>
 some (.ret,(aX 26 (up x [(4,y4),(5,y5),(14,y14),(15,y15),(16,y16),(17,y17),(18,y18),(19,y19),(20,y20),(21,y21),(22,y22),(23,y23),(24,y24)])),h)
 | .bool false=>
 ae (pu (bin Tryz.prog .add 3 (x 13) (.int .i64 1)) h) fun y25 h=>
 ae (some (y25,h)) fun y13 h=>
 some (.normal,(aX 26 (up x [(5,y5),(13,y13),(14,y14),(15,y15),(16,y16),(17,y17),(18,y18),(19,y19),(20,y20),(21,y21),(22,y22),(23,y23),(24,y24),(25,y25)])),h)
 |_=>none)
 | .bool false=>
 some (.exit 0,(aX 26 (up x [(14,y14)])),h)
 |_=>none)
theorem t86_eq (C:av) (x0 x1:Value) (h:ak):aY Tryz.prog C Tryz.f86 [x0,x1] h=t86 C x0 x1 h:=
 (aI Tryz.prog C Tryz.f86 [x0,x1] h (by kernel_rfl)).trans (by kernel_rfl)
theorem t86k86_4_eq (C:av) (x:Nat→Value) (h:ak):k86_4 C (aX 26 x) h=t86k86_4 C x h:=
 bq (b:=(partOf Tryz.f86 [1,1,1])) (kE:=(ax Tryz.prog Tryz.f86.results.toList)) (rE:=(ax Tryz.prog Tryz.f86.results.toList)) (xE:=(fun _ _ _=>none)) (T:=t86k86_4 C) (fun x h=>by kernel_rfl) x h
theorem t86l86_11010_eq (C:av) (x:Nat→Value) (h:ak):aL Tryz.prog C (partOf Tryz.f86 [1,1,0,1,0,0]) (aX 26 x) h=t86l86_11010 C x h:=
 bn (T:=t86l86_11010 C) (fun x h=>by kernel_rfl) x h
noncomputable def k43_4 (C:av) (e:Env) (h:ak):Out:=br Tryz.prog C (partOf Tryz.f43 [1,1,1]) e h (ax Tryz.prog Tryz.f43.results.toList) (ax Tryz.prog Tryz.f43.results.toList) (fun _ _ _=>none)
noncomputable def b43_6 (C:av) (i:Nat) (e:Env) (h:ak):Out:=if i=0 then (k43_4 C) e h else (fun _ _ _=>none) i e h
noncomputable def t43 (C:av) (x0 x1:Value) (h:ak):Out:=
 ae (some ((.bool false),h)) fun y4 h=>
 ae (some (x0,h)) fun y6 h=>
 ae (pu (bE y6) h) fun y7 h=>
 ae (some (x1,h)) fun y8 h=>
 ae (pu (bE y8) h) fun y9 h=>
 ae (pu (bin Tryz.prog .neq 3 y7 y9) h) fun y10 h=>
 (match y10 with
 | .bool true=>
 ae (some ((.bool false),h)) fun y4_1 h=>
 some (y4_1,h)
 | .bool false=>
 ae (some ((.int .i64 0),h)) fun y5 h=>
 ei (iter (aL Tryz.prog C (partOf Tryz.f43 [1,1,0,1,0,0])) rounds (aX 26 (up (bs [x0,x1]) [(4,y4),(5,y5),(6,y6),(7,y7),(8,y8),(9,y9),(10,y10)])) h) (ax Tryz.prog Tryz.f43.results.toList) (b43_6 C)
 |_=>none)
noncomputable def t43k43_4 (C:av) (x:Nat→Value) (h:ak):Out:=
 ae (some ((.bool true),h)) fun y4 h=>
 some (y4,h)
noncomputable def t43l43_11010 (C:av) (x:Nat→Value) (h:ak):Option (Ex×Env×ak):=
 ae (some ((x 5),h)) fun y11 h=>
 ae (some ((x 0),h)) fun y12 h=>
 ae (pu (bE y12) h) fun y13 h=>
 ae (pu (bin Tryz.prog .lss 3 y11 y13) h) fun y14 h=>
 (match y14 with
 | .bool true=>
 ae (some ((x 0),h)) fun y17 h=>
 ae (some ((x 5),h)) fun y18 h=>
 ae (pu (cD 2 y17 y18) h) fun y19 h=>
 ae (bP 2 y19 h) fun y20 h=>
 ae (some ((x 1),h)) fun y21 h=>
 ae (some ((x 5),h)) fun y22 h=>
 ae (pu (cD 2 y21 y22) h) fun y23 h=>
 ae (bP 2 y23 h) fun y24 h=>
 ae (pu (bin Tryz.prog .neq 58 y20 y24) h) fun y25 h=>
 (match y25 with
 | .bool true=>
 ae (some ((.bool false),h)) fun y4 h=>
 some (.ret,(aX 26 (up x [(4,y4),(11,y11),(12,y12),(13,y13),(14,y14),(17,y17),(18,y18),(19,y19),(20,y20),(21,y21),(22,y22),(23,y23),(24,y24),(25,y25)])),h)
 | .bool false=>
 ae (some ((x 5),h)) fun y15 h=>
 ae (pu (bin Tryz.prog .add 3 y15 (.int .i64 1)) h) fun y16 h=>
 ae (some (y16,h)) fun y5 h=>
 some (.normal,(aX 26 (up x [(5,y5),(11,y11),(12,y12),(13,y13),(14,y14),(15,y15),(16,y16),(17,y17),(18,y18),(19,y19),(20,y20),(21,y21),(22,y22),(23,y23),(24,y24),(25,y25)])),h)
 |_=>none)
 | .bool false=>
 some (.exit 0,(aX 26 (up x [(11,y11),(12,y12),(13,y13),(14,y14)])),h)
 |_=>none)
theorem t43_eq (C:av) (x0 x1:Value) (h:ak):aY Tryz.prog C Tryz.f43 [x0,x1] h=t43 C x0 x1 h:=
 (aI Tryz.prog C Tryz.f43 [x0,x1] h (by kernel_rfl)).trans (by kernel_rfl)
theorem t43k43_4_eq (C:av) (x:Nat→Value) (h:ak):k43_4 C (aX 26 x) h=t43k43_4 C x h:=
 bq (b:=(partOf Tryz.f43 [1,1,1])) (kE:=(ax Tryz.prog Tryz.f43.results.toList)) (rE:=(ax Tryz.prog Tryz.f43.results.toList)) (xE:=(fun _ _ _=>none)) (T:=t43k43_4 C) (fun x h=>by kernel_rfl) x h
theorem t43l43_11010_eq (C:av) (x:Nat→Value) (h:ak):aL Tryz.prog C (partOf Tryz.f43 [1,1,0,1,0,0]) (aX 26 x) h=t43l43_11010 C x h:=
 bn (T:=t43l43_11010 C) (fun x h=>by kernel_rfl) x h
noncomputable def k44_4 (C:av) (e:Env) (h:ak):Out:=br Tryz.prog C (partOf Tryz.f44 [1,1,1]) e h (ax Tryz.prog Tryz.f44.results.toList) (ax Tryz.prog Tryz.f44.results.toList) (fun _ _ _=>none)
noncomputable def b44_6 (C:av) (i:Nat) (e:Env) (h:ak):Out:=if i=0 then (k44_4 C) e h else (fun _ _ _=>none) i e h
noncomputable def t44 (C:av) (x0 x1:Value) (h:ak):Out:=
 ae (some ((.bool false),h)) fun y4 h=>
 ae (some (x0,h)) fun y6 h=>
 ae (pu (bE y6) h) fun y7 h=>
 ae (some (x1,h)) fun y8 h=>
 ae (pu (bE y8) h) fun y9 h=>
 ae (pu (bin Tryz.prog .neq 3 y7 y9) h) fun y10 h=>
 (match y10 with
 | .bool true=>
 ae (some ((.bool false),h)) fun y4_1 h=>
 some (y4_1,h)
 | .bool false=>
 ae (some ((.int .i64 0),h)) fun y5 h=>
 ei (iter (aL Tryz.prog C (partOf Tryz.f44 [1,1,0,1,0,0])) rounds (aX 26 (up (bs [x0,x1]) [(4,y4),(5,y5),(6,y6),(7,y7),(8,y8),(9,y9),(10,y10)])) h) (ax Tryz.prog Tryz.f44.results.toList) (b44_6 C)
 |_=>none)
noncomputable def t44k44_4 (C:av) (x:Nat→Value) (h:ak):Out:=
 ae (some ((.bool true),h)) fun y4 h=>
 some (y4,h)
noncomputable def t44l44_11010 (C:av) (x:Nat→Value) (h:ak):Option (Ex×Env×ak):=
 ae (some ((x 5),h)) fun y11 h=>
 ae (some ((x 0),h)) fun y12 h=>
 ae (pu (bE y12) h) fun y13 h=>
 ae (pu (bin Tryz.prog .lss 3 y11 y13) h) fun y14 h=>
 (match y14 with
 | .bool true=>
 ae (some ((x 0),h)) fun y17 h=>
 ae (some ((x 5),h)) fun y18 h=>
 ae (pu (cD 39 y17 y18) h) fun y19 h=>
 ae (bP 39 y19 h) fun y20 h=>
 ae (some ((x 1),h)) fun y21 h=>
 ae (some ((x 5),h)) fun y22 h=>
 ae (pu (cD 39 y21 y22) h) fun y23 h=>
 ae (bP 39 y23 h) fun y24 h=>
 ae (pu (bin Tryz.prog .neq 61 y20 y24) h) fun y25 h=>
 (match y25 with
 | .bool true=>
 ae (some ((.bool false),h)) fun y4 h=>
 some (.ret,(aX 26 (up x [(4,y4),(11,y11),(12,y12),(13,y13),(14,y14),(17,y17),(18,y18),(19,y19),(20,y20),(21,y21),(22,y22),(23,y23),(24,y24),(25,y25)])),h)
 | .bool false=>
 ae (some ((x 5),h)) fun y15 h=>
 ae (pu (bin Tryz.prog .add 3 y15 (.int .i64 1)) h) fun y16 h=>
 ae (some (y16,h)) fun y5 h=>
 some (.normal,(aX 26 (up x [(5,y5),(11,y11),(12,y12),(13,y13),(14,y14),(15,y15),(16,y16),(17,y17),(18,y18),(19,y19),(20,y20),(21,y21),(22,y22),(23,y23),(24,y24),(25,y25)])),h)
 |_=>none)
 | .bool false=>
 some (.exit 0,(aX 26 (up x [(11,y11),(12,y12),(13,y13),(14,y14)])),h)
 |_=>none)
theorem t44_eq (C:av) (x0 x1:Value) (h:ak):aY Tryz.prog C Tryz.f44 [x0,x1] h=t44 C x0 x1 h:=
 (aI Tryz.prog C Tryz.f44 [x0,x1] h (by kernel_rfl)).trans (by kernel_rfl)
theorem t44k44_4_eq (C:av) (x:Nat→Value) (h:ak):k44_4 C (aX 26 x) h=t44k44_4 C x h:=
 bq (b:=(partOf Tryz.f44 [1,1,1])) (kE:=(ax Tryz.prog Tryz.f44.results.toList)) (rE:=(ax Tryz.prog Tryz.f44.results.toList)) (xE:=(fun _ _ _=>none)) (T:=t44k44_4 C) (fun x h=>by kernel_rfl) x h
theorem t44l44_11010_eq (C:av) (x:Nat→Value) (h:ak):aL Tryz.prog C (partOf Tryz.f44 [1,1,0,1,0,0]) (aX 26 x) h=t44l44_11010 C x h:=
 bn (T:=t44l44_11010 C) (fun x h=>by kernel_rfl) x h
noncomputable def k45_4 (C:av) (e:Env) (h:ak):Out:=br Tryz.prog C (partOf Tryz.f45 [1,1,1]) e h (ax Tryz.prog Tryz.f45.results.toList) (ax Tryz.prog Tryz.f45.results.toList) (fun _ _ _=>none)
noncomputable def b45_6 (C:av) (i:Nat) (e:Env) (h:ak):Out:=if i=0 then (k45_4 C) e h else (fun _ _ _=>none) i e h
noncomputable def t45 (C:av) (x0 x1:Value) (h:ak):Out:=
 ae (box x0 h) fun y2 h=>
 ae (box x1 h) fun y3 h=>
 ae (some ((.bool false),h)) fun y4 h=>
 ae (pu (az y2 0) h) fun y6 h=>
 ae (aK y6 h) fun y7 h=>
 ae (pu (az y3 0) h) fun y8 h=>
 ae (aK y8 h) fun y9 h=>
 ae (pu (bin Tryz.prog .neq 3 y7 y9) h) fun y10 h=>
 ae (some (y10,h)) fun y11 h=>
 ae (al (aH y11==some false) (pu (az y2 1) h) h) fun y12 h=>
 ae (al (aH y11==some false) (aK y12 h) h) fun y13 h=>
 ae (al (aH y11==some false) (pu (az y3 1) h) h) fun y14 h=>
 ae (al (aH y11==some false) (aK y14 h) h) fun y15 h=>
 ae (al (aH y11==some false) (pu (bin Tryz.prog .neq 3 y13 y15) h) h) fun y16 h=>
 ae (match y11 with | .bool t=>some (if t then (.bool true) else y16,h)|_=>none) fun y17 h=>
 ae (some (y17,h)) fun y18 h=>
 ae (al (aH y18==some false) (pu (az y2 2) h) h) fun y19 h=>
 ae (al (aH y18==some false) (aK y19 h) h) fun y20 h=>
 ae (al (aH y18==some false) (pu (az y3 2) h) h) fun y21 h=>
 ae (al (aH y18==some false) (aK y21 h) h) fun y22 h=>
 ae (al (aH y18==some false) (pu (bin Tryz.prog .neq 3 y20 y22) h) h) fun y23 h=>
 ae (match y18 with | .bool t=>some (if t then (.bool true) else y23,h)|_=>none) fun y24 h=>
 ae (some (y24,h)) fun y25 h=>
 ae (al (aH y25==some false) (pu (az y2 3) h) h) fun y26 h=>
 ae (al (aH y25==some false) (aK y26 h) h) fun y27 h=>
 ae (al (aH y25==some false) (pu (az y3 3) h) h) fun y28 h=>
 ae (al (aH y25==some false) (aK y28 h) h) fun y29 h=>
 ae (al (aH y25==some false) (pu (bin Tryz.prog .neq 3 y27 y29) h) h) fun y30 h=>
 ae (match y25 with | .bool t=>some (if t then (.bool true) else y30,h)|_=>none) fun y31 h=>
 ae (some (y31,h)) fun y32 h=>
 ae (al (aH y32==some false) (pu (az y2 4) h) h) fun y33 h=>
 ae (al (aH y32==some false) (bP 32 y33 h) h) fun y34 h=>
 ae (al (aH y32==some false) (pu (az y3 4) h) h) fun y35 h=>
 ae (al (aH y32==some false) (bP 32 y35 h) h) fun y36 h=>
 ae (al (aH y32==some false) (pu (bin Tryz.prog .neq 28 y34 y36) h) h) fun y37 h=>
 ae (match y32 with | .bool t=>some (if t then (.bool true) else y37,h)|_=>none) fun y38 h=>
 ae (some (y38,h)) fun y39 h=>
 ae (al (aH y39==some false) (pu (az y2 36) h) h) fun y40 h=>
 ae (al (aH y39==some false) (aK y40 h) h) fun y41 h=>
 ae (al (aH y39==some false) (pu (bE y41) h) h) fun y42 h=>
 ae (al (aH y39==some false) (pu (az y3 36) h) h) fun y43 h=>
 ae (al (aH y39==some false) (aK y43 h) h) fun y44 h=>
 ae (al (aH y39==some false) (pu (bE y44) h) h) fun y45 h=>
 ae (al (aH y39==some false) (pu (bin Tryz.prog .neq 3 y42 y45) h) h) fun y46 h=>
 ae (match y39 with | .bool t=>some (if t then (.bool true) else y46,h)|_=>none) fun y47 h=>
 (match y47 with
 | .bool true=>
 ae (some ((.bool false),h)) fun y4_1 h=>
 some (y4_1,h)
 | .bool false=>
 ae (some ((.int .i64 0),h)) fun y5 h=>
 ei (iter (aL Tryz.prog C (partOf Tryz.f45 [1,1,0,1,0,0])) rounds (aX 66 (up (bs [x0,x1]) [(2,y2),(3,y3),(4,y4),(5,y5),(6,y6),(7,y7),(8,y8),(9,y9),(10,y10),(11,y11),(12,y12),(13,y13),(14,y14),(15,y15),(16,y16),(17,y17),(18,y18),(19,y19),(20,y20),(21,y21),(22,y22),(23,y23),(24,y24),(25,y25),(26,y26),(27,y27),(28,y28),(29,y29),(30,y30),(31,y31),(32,y32),(33,y33),(34,y34),(35,y35),(36,y36),(37,y37),(38,y38),(39,y39),(40,y40),(41,y41),(42,y42),(43,y43),(44,y44),(45,y45),(46,y46),(47,y47)])) h) (ax Tryz.prog Tryz.f45.results.toList) (b45_6 C)
 |_=>none)
noncomputable def t45k45_4 (C:av) (x:Nat→Value) (h:ak):Out:=
 ae (some ((.bool true),h)) fun y4 h=>
 some (y4,h)
noncomputable def t45l45_11010 (C:av) (x:Nat→Value) (h:ak):Option (Ex×Env×ak):=
 ae (some ((x 5),h)) fun y48 h=>
 ae (pu (az (x 2) 36) h) fun y49 h=>
 ae (aK y49 h) fun y50 h=>
 ae (pu (bE y50) h) fun y51 h=>
 ae (pu (bin Tryz.prog .lss 3 y48 y51) h) fun y52 h=>
 (match y52 with
 | .bool true=>
 ae (pu (az (x 2) 36) h) fun y55 h=>
 ae (aK y55 h) fun y56 h=>
 ae (some ((x 5),h)) fun y57 h=>
 ae (pu (cD 32 y56 y57) h) fun y58 h=>
 ae (bP 32 y58 h) fun y59 h=>
 ae (pu (az (x 3) 36) h) fun y60 h=>
 ae (aK y60 h) fun y61 h=>
 ae (some ((x 5),h)) fun y62 h=>
 ae (pu (cD 32 y61 y62) h) fun y63 h=>
 ae (bP 32 y63 h) fun y64 h=>
 ae (pu (bin Tryz.prog .neq 28 y59 y64) h) fun y65 h=>
 (match y65 with
 | .bool true=>
 ae (some ((.bool false),h)) fun y4 h=>
 some (.ret,(aX 66 (up x [(4,y4),(48,y48),(49,y49),(50,y50),(51,y51),(52,y52),(55,y55),(56,y56),(57,y57),(58,y58),(59,y59),(60,y60),(61,y61),(62,y62),(63,y63),(64,y64),(65,y65)])),h)
 | .bool false=>
 ae (some ((x 5),h)) fun y53 h=>
 ae (pu (bin Tryz.prog .add 3 y53 (.int .i64 1)) h) fun y54 h=>
 ae (some (y54,h)) fun y5 h=>
 some (.normal,(aX 66 (up x [(5,y5),(48,y48),(49,y49),(50,y50),(51,y51),(52,y52),(53,y53),(54,y54),(55,y55),(56,y56),(57,y57),(58,y58),(59,y59),(60,y60),(61,y61),(62,y62),(63,y63),(64,y64),(65,y65)])),h)
 |_=>none)
 | .bool false=>
 some (.exit 0,(aX 66 (up x [(48,y48),(49,y49),(50,y50),(51,y51),(52,y52)])),h)
 |_=>none)
theorem t45_eq (C:av) (x0 x1:Value) (h:ak):aY Tryz.prog C Tryz.f45 [x0,x1] h=t45 C x0 x1 h:=
 (aI Tryz.prog C Tryz.f45 [x0,x1] h (by kernel_rfl)).trans (by kernel_rfl)
theorem t45k45_4_eq (C:av) (x:Nat→Value) (h:ak):k45_4 C (aX 66 x) h=t45k45_4 C x h:=
 bq (b:=(partOf Tryz.f45 [1,1,1])) (kE:=(ax Tryz.prog Tryz.f45.results.toList)) (rE:=(ax Tryz.prog Tryz.f45.results.toList)) (xE:=(fun _ _ _=>none)) (T:=t45k45_4 C) (fun x h=>by kernel_rfl) x h
theorem t45l45_11010_eq (C:av) (x:Nat→Value) (h:ak):aL Tryz.prog C (partOf Tryz.f45 [1,1,0,1,0,0]) (aX 66 x) h=t45l45_11010 C x h:=
 bn (T:=t45l45_11010 C) (fun x h=>by kernel_rfl) x h
noncomputable def t56 (C:av) (x0 x1:Value) (h:ak):Out:=
 ae (box x0 h) fun y2 h=>
 ae (box x1 h) fun y3 h=>
 ae (some ((.bool false),h)) fun y4 h=>
 ae (pu (az y2 0) h) fun y5 h=>
 ae (aK y5 h) fun y6 h=>
 ae (pu (az y3 0) h) fun y7 h=>
 ae (aK y7 h) fun y8 h=>
 ae (pu (bin Tryz.prog .eql 3 y6 y8) h) fun y9 h=>
 ae (some (y9,h)) fun y10 h=>
 ae (al (aH y10==some true) (pu (az y2 1) h) h) fun y11 h=>
 ae (al (aH y10==some true) (aK y11 h) h) fun y12 h=>
 ae (al (aH y10==some true) (pu (az y3 1) h) h) fun y13 h=>
 ae (al (aH y10==some true) (aK y13 h) h) fun y14 h=>
 ae (al (aH y10==some true) (pu (bin Tryz.prog .eql 3 y12 y14) h) h) fun y15 h=>
 ae (match y10 with | .bool t=>some (if t then y15 else (.bool false),h)|_=>none) fun y16 h=>
 ae (some (y16,h)) fun y17 h=>
 ae (al (aH y17==some true) (pu (az y2 2) h) h) fun y18 h=>
 ae (al (aH y17==some true) (aK y18 h) h) fun y19 h=>
 ae (al (aH y17==some true) (pu (az y3 2) h) h) fun y20 h=>
 ae (al (aH y17==some true) (aK y20 h) h) fun y21 h=>
 ae (al (aH y17==some true) (pu (bin Tryz.prog .eql 3 y19 y21) h) h) fun y22 h=>
 ae (match y17 with | .bool t=>some (if t then y22 else (.bool false),h)|_=>none) fun y23 h=>
 ae (some (y23,h)) fun y24 h=>
 ae (al (aH y24==some true) (pu (az y2 3) h) h) fun y25 h=>
 ae (al (aH y24==some true) (aK y25 h) h) fun y26 h=>
 ae (al (aH y24==some true) (pu (az y3 3) h) h) fun y27 h=>
 ae (al (aH y24==some true) (aK y27 h) h) fun y28 h=>
 ae (al (aH y24==some true) (pu (bin Tryz.prog .eql 3 y26 y28) h) h) fun y29 h=>
 ae (match y24 with | .bool t=>some (if t then y29 else (.bool false),h)|_=>none) fun y30 h=>
 ae (some (y30,h)) fun y31 h=>
 ae (al (aH y31==some true) (pu (az y2 4) h) h) fun y32 h=>
 ae (al (aH y31==some true) (bP 32 y32 h) h) fun y33 h=>
 ae (al (aH y31==some true) (pu (az y3 4) h) h) fun y34 h=>
 ae (al (aH y31==some true) (bP 32 y34 h) h) fun y35 h=>
 ae (al (aH y31==some true) (pu (bin Tryz.prog .eql 28 y33 y35) h) h) fun y36 h=>
 ae (match y31 with | .bool t=>some (if t then y36 else (.bool false),h)|_=>none) fun y37 h=>
 ae (some (y37,h)) fun y38 h=>
 ae (al (aH y38==some true) (pu (az y2 36) h) h) fun y39 h=>
 ae (al (aH y38==some true) (aK y39 h) h) fun y40 h=>
 ae (al (aH y38==some true) (pu (az y3 36) h) h) fun y41 h=>
 ae (al (aH y38==some true) (aK y41 h) h) fun y42 h=>
 ae (al (aH y38==some true) (C 86 [y40,y42] h) h) fun y43 h=>
 ae (match y38 with | .bool t=>some (if t then y43 else (.bool false),h)|_=>none) fun y44 h=>
 ae (some (y44,h)) fun y4_1 h=>
 some (y4_1,h)
theorem t56_eq (C:av) (x0 x1:Value) (h:ak):aY Tryz.prog C Tryz.f56 [x0,x1] h=t56 C x0 x1 h:=
 (aI Tryz.prog C Tryz.f56 [x0,x1] h (by kernel_rfl)).trans (by kernel_rfl)
noncomputable def t15 (C:av) (x0 x1:Value) (h:ak):Out:=
 ae (box x0 h) fun y2 h=>
 ae (box x1 h) fun y3 h=>
 ae (some ((.bool false),h)) fun y4 h=>
 ae (pu (az y2 0) h) fun y5 h=>
 ae (aK y5 h) fun y6 h=>
 ae (pu (az y3 0) h) fun y7 h=>
 ae (aK y7 h) fun y8 h=>
 ae (pu (bin Tryz.prog .neq 24 y6 y8) h) fun y9 h=>
 ae (some (y9,h)) fun y10 h=>
 ae (al (aH y10==some false) (pu (az y2 1) h) h) fun y11 h=>
 ae (al (aH y10==some false) (aK y11 h) h) fun y12 h=>
 ae (al (aH y10==some false) (pu (az y3 1) h) h) fun y13 h=>
 ae (al (aH y10==some false) (aK y13 h) h) fun y14 h=>
 ae (al (aH y10==some false) (pu (bin Tryz.prog .neq 3 y12 y14) h) h) fun y15 h=>
 ae (match y10 with | .bool t=>some (if t then (.bool true) else y15,h)|_=>none) fun y16 h=>
 ae (some (y16,h)) fun y17 h=>
 ae (al (aH y17==some false) (pu (az y2 2) h) h) fun y18 h=>
 ae (al (aH y17==some false) (aK y18 h) h) fun y19 h=>
 ae (al (aH y17==some false) (pu (az y3 2) h) h) fun y20 h=>
 ae (al (aH y17==some false) (aK y20 h) h) fun y21 h=>
 ae (al (aH y17==some false) (pu (bin Tryz.prog .neq 3 y19 y21) h) h) fun y22 h=>
 ae (match y17 with | .bool t=>some (if t then (.bool true) else y22,h)|_=>none) fun y23 h=>
 ae (some (y23,h)) fun y24 h=>
 ae (al (aH y24==some false) (pu (az y2 3) h) h) fun y25 h=>
 ae (al (aH y24==some false) (aK y25 h) h) fun y26 h=>
 ae (al (aH y24==some false) (pu (az y3 3) h) h) fun y27 h=>
 ae (al (aH y24==some false) (aK y27 h) h) fun y28 h=>
 ae (al (aH y24==some false) (pu (bin Tryz.prog .neq 25 y26 y28) h) h) fun y29 h=>
 ae (match y24 with | .bool t=>some (if t then (.bool true) else y29,h)|_=>none) fun y30 h=>
 ae (some (y30,h)) fun y31 h=>
 ae (al (aH y31==some false) (pu (az y2 4) h) h) fun y32 h=>
 ae (al (aH y31==some false) (aK y32 h) h) fun y33 h=>
 ae (al (aH y31==some false) (pu (az y3 4) h) h) fun y34 h=>
 ae (al (aH y31==some false) (aK y34 h) h) fun y35 h=>
 ae (al (aH y31==some false) (pu (bin Tryz.prog .neq 3 y33 y35) h) h) fun y36 h=>
 ae (match y31 with | .bool t=>some (if t then (.bool true) else y36,h)|_=>none) fun y37 h=>
 ae (some (y37,h)) fun y38 h=>
 ae (al (aH y38==some false) (pu (az y2 5) h) h) fun y39 h=>
 ae (al (aH y38==some false) (aK y39 h) h) fun y40 h=>
 ae (al (aH y38==some false) (pu (az y3 5) h) h) fun y41 h=>
 ae (al (aH y38==some false) (aK y41 h) h) fun y42 h=>
 ae (al (aH y38==some false) (pu (bin Tryz.prog .neq 3 y40 y42) h) h) fun y43 h=>
 ae (match y38 with | .bool t=>some (if t then (.bool true) else y43,h)|_=>none) fun y44 h=>
 ae (some (y44,h)) fun y45 h=>
 ae (al (aH y45==some false) (pu (az y2 6) h) h) fun y46 h=>
 ae (al (aH y45==some false) (aK y46 h) h) fun y47 h=>
 ae (al (aH y45==some false) (pu (az y3 6) h) h) fun y48 h=>
 ae (al (aH y45==some false) (aK y48 h) h) fun y49 h=>
 ae (al (aH y45==some false) (C 43 [y47,y49] h) h) fun y50 h=>
 ae (al (aH y45==some false) (pu (unA .not y50) h) h) fun y51 h=>
 ae (match y45 with | .bool t=>some (if t then (.bool true) else y51,h)|_=>none) fun y52 h=>
 (match y52 with
 | .bool true=>
 ae (some ((.bool false),h)) fun y4_1 h=>
 some (y4_1,h)
 | .bool false=>
 ae (pu (az y2 7) h) fun y53 h=>
 ae (aK y53 h) fun y54 h=>
 ae (cvBS y54 h) fun y55 h=>
 ae (pu (az y3 7) h) fun y56 h=>
 ae (aK y56 h) fun y57 h=>
 ae (cvBS y57 h) fun y58 h=>
 ae (pu (bin Tryz.prog .neq 9 y55 y58) h) fun y59 h=>
 ae (some (y59,h)) fun y60 h=>
 ae (al (aH y60==some false) (pu (az y2 8) h) h) fun y61 h=>
 ae (al (aH y60==some false) (aK y61 h) h) fun y62 h=>
 ae (al (aH y60==some false) (cvBS y62 h) h) fun y63 h=>
 ae (al (aH y60==some false) (pu (az y3 8) h) h) fun y64 h=>
 ae (al (aH y60==some false) (aK y64 h) h) fun y65 h=>
 ae (al (aH y60==some false) (cvBS y65 h) h) fun y66 h=>
 ae (al (aH y60==some false) (pu (bin Tryz.prog .neq 9 y63 y66) h) h) fun y67 h=>
 ae (match y60 with | .bool t=>some (if t then (.bool true) else y67,h)|_=>none) fun y68 h=>
 ae (some (y68,h)) fun y69 h=>
 ae (al (aH y69==some false) (pu (az y2 9) h) h) fun y70 h=>
 ae (al (aH y69==some false) (aK y70 h) h) fun y71 h=>
 ae (al (aH y69==some false) (pu (az y3 9) h) h) fun y72 h=>
 ae (al (aH y69==some false) (aK y72 h) h) fun y73 h=>
 ae (al (aH y69==some false) (pu (bin Tryz.prog .neq 3 y71 y73) h) h) fun y74 h=>
 ae (match y69 with | .bool t=>some (if t then (.bool true) else y74,h)|_=>none) fun y75 h=>
 ae (some (y75,h)) fun y76 h=>
 ae (al (aH y76==some false) (pu (az y2 10) h) h) fun y77 h=>
 ae (al (aH y76==some false) (bP 32 y77 h) h) fun y78 h=>
 ae (al (aH y76==some false) (pu (az y3 10) h) h) fun y79 h=>
 ae (al (aH y76==some false) (bP 32 y79 h) h) fun y80 h=>
 ae (al (aH y76==some false) (pu (bin Tryz.prog .neq 28 y78 y80) h) h) fun y81 h=>
 ae (match y76 with | .bool t=>some (if t then (.bool true) else y81,h)|_=>none) fun y82 h=>
 ae (some (y82,h)) fun y83 h=>
 ae (al (aH y83==some false) (pu (az y2 42) h) h) fun y84 h=>
 ae (al (aH y83==some false) (aK y84 h) h) fun y85 h=>
 ae (al (aH y83==some false) (pu (az y3 42) h) h) fun y86 h=>
 ae (al (aH y83==some false) (aK y86 h) h) fun y87 h=>
 ae (al (aH y83==some false) (C 44 [y85,y87] h) h) fun y88 h=>
 ae (al (aH y83==some false) (pu (unA .not y88) h) h) fun y89 h=>
 ae (match y83 with | .bool t=>some (if t then (.bool true) else y89,h)|_=>none) fun y90 h=>
 ae (some (y90,h)) fun y91 h=>
 ae (al (aH y91==some false) (pu (az y2 43) h) h) fun y92 h=>
 ae (al (aH y91==some false) (aK y92 h) h) fun y93 h=>
 ae (al (aH y91==some false) (pu (az y3 43) h) h) fun y94 h=>
 ae (al (aH y91==some false) (aK y94 h) h) fun y95 h=>
 ae (al (aH y91==some false) (pu (bin Tryz.prog .neq 4 y93 y95) h) h) fun y96 h=>
 ae (match y91 with | .bool t=>some (if t then (.bool true) else y96,h)|_=>none) fun y97 h=>
 (match y97 with
 | .bool true=>
 ae (some ((.bool false),h)) fun y4_1 h=>
 some (y4_1,h)
 | .bool false=>
 ae (pu (az y2 44) h) fun y98 h=>
 ae (bP 32 y98 h) fun y99 h=>
 ae (pu (az y3 44) h) fun y100 h=>
 ae (bP 32 y100 h) fun y101 h=>
 ae (pu (bin Tryz.prog .eql 28 y99 y101) h) fun y102 h=>
 ae (some (y102,h)) fun y103 h=>
 ae (al (aH y103==some true) (pu (az y2 76) h) h) fun y104 h=>
 ae (al (aH y103==some true) (bP 37 y104 h) h) fun y105 h=>
 ae (al (aH y103==some true) (pu (az y3 76) h) h) fun y106 h=>
 ae (al (aH y103==some true) (bP 37 y106 h) h) fun y107 h=>
 ae (al (aH y103==some true) (C 45 [y105,y107] h) h) fun y108 h=>
 ae (match y103 with | .bool t=>some (if t then y108 else (.bool false),h)|_=>none) fun y109 h=>
 ae (some (y109,h)) fun y110 h=>
 ae (al (aH y110==some true) (pu (az y2 113) h) h) fun y111 h=>
 ae (al (aH y110==some true) (pu (az y111 0) h) h) fun y112 h=>
 ae (al (aH y110==some true) (aK y112 h) h) fun y113 h=>
 ae (al (aH y110==some true) (pu (az y3 113) h) h) fun y114 h=>
 ae (al (aH y110==some true) (pu (az y114 0) h) h) fun y115 h=>
 ae (al (aH y110==some true) (aK y115 h) h) fun y116 h=>
 ae (al (aH y110==some true) (pu (bin Tryz.prog .eql 3 y113 y116) h) h) fun y117 h=>
 ae (match y110 with | .bool t=>some (if t then y117 else (.bool false),h)|_=>none) fun y118 h=>
 ae (some (y118,h)) fun y119 h=>
 ae (al (aH y119==some true) (pu (az y2 113) h) h) fun y120 h=>
 ae (al (aH y119==some true) (pu (az y120 1) h) h) fun y121 h=>
 ae (al (aH y119==some true) (aK y121 h) h) fun y122 h=>
 ae (al (aH y119==some true) (cvBS y122 h) h) fun y123 h=>
 ae (al (aH y119==some true) (pu (az y3 113) h) h) fun y124 h=>
 ae (al (aH y119==some true) (pu (az y124 1) h) h) fun y125 h=>
 ae (al (aH y119==some true) (aK y125 h) h) fun y126 h=>
 ae (al (aH y119==some true) (cvBS y126 h) h) fun y127 h=>
 ae (al (aH y119==some true) (pu (bin Tryz.prog .eql 9 y123 y127) h) h) fun y128 h=>
 ae (match y119 with | .bool t=>some (if t then y128 else (.bool false),h)|_=>none) fun y129 h=>
 ae (some (y129,h)) fun y130 h=>
 ae (al (aH y130==some true) (pu (az y2 115) h) h) fun y131 h=>
 ae (al (aH y130==some true) (aK y131 h) h) fun y132 h=>
 ae (al (aH y130==some true) (pu (az y3 115) h) h) fun y133 h=>
 ae (al (aH y130==some true) (aK y133 h) h) fun y134 h=>
 ae (al (aH y130==some true) (pu (bin Tryz.prog .eql 35 y132 y134) h) h) fun y135 h=>
 ae (match y130 with | .bool t=>some (if t then y135 else (.bool false),h)|_=>none) fun y136 h=>
 ae (some (y136,h)) fun y4_1 h=>
 some (y4_1,h)
 |_=>none)
 |_=>none)
theorem t15_eq (C:av) (x0 x1:Value) (h:ak):aY Tryz.prog C Tryz.f15 [x0,x1] h=t15 C x0 x1 h:=
 (aI Tryz.prog C Tryz.f15 [x0,x1] h (by kernel_rfl)).trans (by kernel_rfl)
noncomputable def t22 (C:av) (x0 x1:Value) (h:ak):Out:=
 ae (box x0 h) fun y2 h=>
 ae (box x1 h) fun y3 h=>
 ae (some ((.bool false),h)) fun y4 h=>
 ae (pu (az y2 0) h) fun y5 h=>
 ae (aK y5 h) fun y6 h=>
 ae (pu (az y3 0) h) fun y7 h=>
 ae (aK y7 h) fun y8 h=>
 ae (pu (bin Tryz.prog .eql 24 y6 y8) h) fun y9 h=>
 ae (some (y9,h)) fun y10 h=>
 ae (al (aH y10==some true) (pu (az y2 1) h) h) fun y11 h=>
 ae (al (aH y10==some true) (aK y11 h) h) fun y12 h=>
 ae (al (aH y10==some true) (pu (az y3 1) h) h) fun y13 h=>
 ae (al (aH y10==some true) (aK y13 h) h) fun y14 h=>
 ae (al (aH y10==some true) (pu (bin Tryz.prog .eql 3 y12 y14) h) h) fun y15 h=>
 ae (match y10 with | .bool t=>some (if t then y15 else (.bool false),h)|_=>none) fun y16 h=>
 ae (some (y16,h)) fun y17 h=>
 ae (al (aH y17==some true) (pu (az y2 2) h) h) fun y18 h=>
 ae (al (aH y17==some true) (aK y18 h) h) fun y19 h=>
 ae (al (aH y17==some true) (pu (az y3 2) h) h) fun y20 h=>
 ae (al (aH y17==some true) (aK y20 h) h) fun y21 h=>
 ae (al (aH y17==some true) (pu (bin Tryz.prog .eql 3 y19 y21) h) h) fun y22 h=>
 ae (match y17 with | .bool t=>some (if t then y22 else (.bool false),h)|_=>none) fun y23 h=>
 ae (some (y23,h)) fun y24 h=>
 ae (al (aH y24==some true) (pu (az y2 3) h) h) fun y25 h=>
 ae (al (aH y24==some true) (aK y25 h) h) fun y26 h=>
 ae (al (aH y24==some true) (pu (az y3 3) h) h) fun y27 h=>
 ae (al (aH y24==some true) (aK y27 h) h) fun y28 h=>
 ae (al (aH y24==some true) (pu (bin Tryz.prog .eql 25 y26 y28) h) h) fun y29 h=>
 ae (match y24 with | .bool t=>some (if t then y29 else (.bool false),h)|_=>none) fun y30 h=>
 ae (some (y30,h)) fun y31 h=>
 ae (al (aH y31==some true) (pu (az y2 4) h) h) fun y32 h=>
 ae (al (aH y31==some true) (aK y32 h) h) fun y33 h=>
 ae (al (aH y31==some true) (pu (az y3 4) h) h) fun y34 h=>
 ae (al (aH y31==some true) (aK y34 h) h) fun y35 h=>
 ae (al (aH y31==some true) (pu (bin Tryz.prog .eql 3 y33 y35) h) h) fun y36 h=>
 ae (match y31 with | .bool t=>some (if t then y36 else (.bool false),h)|_=>none) fun y37 h=>
 ae (some (y37,h)) fun y38 h=>
 ae (al (aH y38==some true) (pu (az y2 5) h) h) fun y39 h=>
 ae (al (aH y38==some true) (aK y39 h) h) fun y40 h=>
 ae (al (aH y38==some true) (pu (az y3 5) h) h) fun y41 h=>
 ae (al (aH y38==some true) (aK y41 h) h) fun y42 h=>
 ae (al (aH y38==some true) (pu (bin Tryz.prog .eql 3 y40 y42) h) h) fun y43 h=>
 ae (match y38 with | .bool t=>some (if t then y43 else (.bool false),h)|_=>none) fun y44 h=>
 ae (some (y44,h)) fun y45 h=>
 ae (al (aH y45==some true) (pu (az y2 6) h) h) fun y46 h=>
 ae (al (aH y45==some true) (aK y46 h) h) fun y47 h=>
 ae (al (aH y45==some true) (pu (az y3 6) h) h) fun y48 h=>
 ae (al (aH y45==some true) (aK y48 h) h) fun y49 h=>
 ae (al (aH y45==some true) (C 53 [y47,y49] h) h) fun y50 h=>
 ae (match y45 with | .bool t=>some (if t then y50 else (.bool false),h)|_=>none) fun y51 h=>
 ae (some (y51,h)) fun y52 h=>
 ae (al (aH y52==some true) (pu (az y2 7) h) h) fun y53 h=>
 ae (al (aH y52==some true) (aK y53 h) h) fun y54 h=>
 ae (al (aH y52==some true) (pu (az y3 7) h) h) fun y55 h=>
 ae (al (aH y52==some true) (aK y55 h) h) fun y56 h=>
 ae (al (aH y52==some true) (C 54 [y54,y56] h) h) fun y57 h=>
 ae (match y52 with | .bool t=>some (if t then y57 else (.bool false),h)|_=>none) fun y58 h=>
 ae (some (y58,h)) fun y59 h=>
 ae (al (aH y59==some true) (pu (az y2 8) h) h) fun y60 h=>
 ae (al (aH y59==some true) (aK y60 h) h) fun y61 h=>
 ae (al (aH y59==some true) (pu (az y3 8) h) h) fun y62 h=>
 ae (al (aH y59==some true) (aK y62 h) h) fun y63 h=>
 ae (al (aH y59==some true) (C 54 [y61,y63] h) h) fun y64 h=>
 ae (match y59 with | .bool t=>some (if t then y64 else (.bool false),h)|_=>none) fun y65 h=>
 ae (some (y65,h)) fun y66 h=>
 ae (al (aH y66==some true) (pu (az y2 9) h) h) fun y67 h=>
 ae (al (aH y66==some true) (aK y67 h) h) fun y68 h=>
 ae (al (aH y66==some true) (pu (az y3 9) h) h) fun y69 h=>
 ae (al (aH y66==some true) (aK y69 h) h) fun y70 h=>
 ae (al (aH y66==some true) (pu (bin Tryz.prog .eql 3 y68 y70) h) h) fun y71 h=>
 ae (match y66 with | .bool t=>some (if t then y71 else (.bool false),h)|_=>none) fun y72 h=>
 ae (some (y72,h)) fun y73 h=>
 ae (al (aH y73==some true) (pu (az y2 10) h) h) fun y74 h=>
 ae (al (aH y73==some true) (bP 32 y74 h) h) fun y75 h=>
 ae (al (aH y73==some true) (pu (az y3 10) h) h) fun y76 h=>
 ae (al (aH y73==some true) (bP 32 y76 h) h) fun y77 h=>
 ae (al (aH y73==some true) (pu (bin Tryz.prog .eql 28 y75 y77) h) h) fun y78 h=>
 ae (match y73 with | .bool t=>some (if t then y78 else (.bool false),h)|_=>none) fun y79 h=>
 ae (some (y79,h)) fun y80 h=>
 ae (al (aH y80==some true) (pu (az y2 42) h) h) fun y81 h=>
 ae (al (aH y80==some true) (aK y81 h) h) fun y82 h=>
 ae (al (aH y80==some true) (pu (az y3 42) h) h) fun y83 h=>
 ae (al (aH y80==some true) (aK y83 h) h) fun y84 h=>
 ae (al (aH y80==some true) (C 55 [y82,y84] h) h) fun y85 h=>
 ae (match y80 with | .bool t=>some (if t then y85 else (.bool false),h)|_=>none) fun y86 h=>
 ae (some (y86,h)) fun y87 h=>
 ae (al (aH y87==some true) (pu (az y2 43) h) h) fun y88 h=>
 ae (al (aH y87==some true) (aK y88 h) h) fun y89 h=>
 ae (al (aH y87==some true) (pu (az y3 43) h) h) fun y90 h=>
 ae (al (aH y87==some true) (aK y90 h) h) fun y91 h=>
 ae (al (aH y87==some true) (pu (bin Tryz.prog .eql 4 y89 y91) h) h) fun y92 h=>
 ae (match y87 with | .bool t=>some (if t then y92 else (.bool false),h)|_=>none) fun y93 h=>
 ae (some (y93,h)) fun y94 h=>
 ae (al (aH y94==some true) (pu (az y2 44) h) h) fun y95 h=>
 ae (al (aH y94==some true) (bP 32 y95 h) h) fun y96 h=>
 ae (al (aH y94==some true) (pu (az y3 44) h) h) fun y97 h=>
 ae (al (aH y94==some true) (bP 32 y97 h) h) fun y98 h=>
 ae (al (aH y94==some true) (pu (bin Tryz.prog .eql 28 y96 y98) h) h) fun y99 h=>
 ae (match y94 with | .bool t=>some (if t then y99 else (.bool false),h)|_=>none) fun y100 h=>
 ae (some (y100,h)) fun y101 h=>
 ae (al (aH y101==some true) (pu (az y2 76) h) h) fun y102 h=>
 ae (al (aH y101==some true) (bP 37 y102 h) h) fun y103 h=>
 ae (al (aH y101==some true) (pu (az y3 76) h) h) fun y104 h=>
 ae (al (aH y101==some true) (bP 37 y104 h) h) fun y105 h=>
 ae (al (aH y101==some true) (C 56 [y103,y105] h) h) fun y106 h=>
 ae (match y101 with | .bool t=>some (if t then y106 else (.bool false),h)|_=>none) fun y107 h=>
 ae (some (y107,h)) fun y108 h=>
 ae (al (aH y108==some true) (pu (az y2 113) h) h) fun y109 h=>
 ae (al (aH y108==some true) (pu (az y109 0) h) h) fun y110 h=>
 ae (al (aH y108==some true) (aK y110 h) h) fun y111 h=>
 ae (al (aH y108==some true) (pu (az y3 113) h) h) fun y112 h=>
 ae (al (aH y108==some true) (pu (az y112 0) h) h) fun y113 h=>
 ae (al (aH y108==some true) (aK y113 h) h) fun y114 h=>
 ae (al (aH y108==some true) (pu (bin Tryz.prog .eql 3 y111 y114) h) h) fun y115 h=>
 ae (match y108 with | .bool t=>some (if t then y115 else (.bool false),h)|_=>none) fun y116 h=>
 ae (some (y116,h)) fun y117 h=>
 ae (al (aH y117==some true) (pu (az y2 113) h) h) fun y118 h=>
 ae (al (aH y117==some true) (pu (az y118 1) h) h) fun y119 h=>
 ae (al (aH y117==some true) (aK y119 h) h) fun y120 h=>
 ae (al (aH y117==some true) (pu (az y3 113) h) h) fun y121 h=>
 ae (al (aH y117==some true) (pu (az y121 1) h) h) fun y122 h=>
 ae (al (aH y117==some true) (aK y122 h) h) fun y123 h=>
 ae (al (aH y117==some true) (C 54 [y120,y123] h) h) fun y124 h=>
 ae (match y117 with | .bool t=>some (if t then y124 else (.bool false),h)|_=>none) fun y125 h=>
 ae (some (y125,h)) fun y126 h=>
 ae (al (aH y126==some true) (pu (az y2 115) h) h) fun y127 h=>
 ae (al (aH y126==some true) (aK y127 h) h) fun y128 h=>
 ae (al (aH y126==some true) (pu (az y3 115) h) h) fun y129 h=>
 ae (al (aH y126==some true) (aK y129 h) h) fun y130 h=>
 ae (al (aH y126==some true) (pu (bin Tryz.prog .eql 35 y128 y130) h) h) fun y131 h=>
 ae (match y126 with | .bool t=>some (if t then y131 else (.bool false),h)|_=>none) fun y132 h=>
 ae (some (y132,h)) fun y4_1 h=>
 some (y4_1,h)
theorem t22_eq (C:av) (x0 x1:Value) (h:ak):aY Tryz.prog C Tryz.f22 [x0,x1] h=t22 C x0 x1 h:=
 (aI Tryz.prog C Tryz.f22 [x0,x1] h (by kernel_rfl)).trans (by kernel_rfl)
noncomputable def t18 (C:av) (x0:Value) (h:ak):Out:=
 ae (box x0 h) fun y1 h=>
 ae (some ((.bool false),h)) fun y2 h=>
 ae (pu (az y1 6) h) fun y3 h=>
 ae (aK y3 h) fun y4 h=>
 ae (pu (bE y4) h) fun y5 h=>
 ae (pu (bin Tryz.prog .gtr 3 y5 (.int .i64 40)) h) fun y6 h=>
 ae (some (y6,h)) fun y7 h=>
 ae (al (aH y7==some false) (pu (az y1 7) h) h) fun y8 h=>
 ae (al (aH y7==some false) (aK y8 h) h) fun y9 h=>
 ae (al (aH y7==some false) (pu (bE y9) h) h) fun y10 h=>
 ae (al (aH y7==some false) (pu (bin Tryz.prog .gtr 3 y10 (.int .i64 100)) h) h) fun y11 h=>
 ae (match y7 with | .bool t=>some (if t then (.bool true) else y11,h)|_=>none) fun y12 h=>
 ae (some (y12,h)) fun y13 h=>
 ae (al (aH y13==some false) (pu (az y1 8) h) h) fun y14 h=>
 ae (al (aH y13==some false) (aK y14 h) h) fun y15 h=>
 ae (al (aH y13==some false) (pu (bE y15) h) h) fun y16 h=>
 ae (al (aH y13==some false) (pu (bin Tryz.prog .gtr 3 y16 (.int .i64 100)) h) h) fun y17 h=>
 ae (match y13 with | .bool t=>some (if t then (.bool true) else y17,h)|_=>none) fun y18 h=>
 ae (some (y18,h)) fun y19 h=>
 ae (al (aH y19==some false) (pu (az y1 42) h) h) fun y20 h=>
 ae (al (aH y19==some false) (aK y20 h) h) fun y21 h=>
 ae (al (aH y19==some false) (pu (bE y21) h) h) fun y22 h=>
 ae (al (aH y19==some false) (pu (bin Tryz.prog .gtr 3 y22 (.int .i64 100)) h) h) fun y23 h=>
 ae (match y19 with | .bool t=>some (if t then (.bool true) else y23,h)|_=>none) fun y24 h=>
 ae (some (y24,h)) fun y25 h=>
 ae (al (aH y25==some false) (pu (az y1 76) h) h) fun y26 h=>
 ae (al (aH y25==some false) (pu (az y26 36) h) h) fun y27 h=>
 ae (al (aH y25==some false) (aK y27 h) h) fun y28 h=>
 ae (al (aH y25==some false) (pu (bE y28) h) h) fun y29 h=>
 ae (al (aH y25==some false) (pu (bin Tryz.prog .gtr 3 y29 (.int .i64 300)) h) h) fun y30 h=>
 ae (match y25 with | .bool t=>some (if t then (.bool true) else y30,h)|_=>none) fun y31 h=>
 ae (some (y31,h)) fun y32 h=>
 ae (al (aH y32==some false) (pu (az y1 113) h) h) fun y33 h=>
 ae (al (aH y32==some false) (pu (az y33 1) h) h) fun y34 h=>
 ae (al (aH y32==some false) (aK y34 h) h) fun y35 h=>
 ae (al (aH y32==some false) (pu (bE y35) h) h) fun y36 h=>
 ae (al (aH y32==some false) (pu (bin Tryz.prog .gtr 3 y36 (.int .i64 9000)) h) h) fun y37 h=>
 ae (match y32 with | .bool t=>some (if t then (.bool true) else y37,h)|_=>none) fun y38 h=>
 ae (some (y38,h)) fun y2_1 h=>
 some (y2_1,h)
theorem t18_eq (C:av) (x0:Value) (h:ak):aY Tryz.prog C Tryz.f18 [x0] h=t18 C x0 h:=
 (aI Tryz.prog C Tryz.f18 [x0] h (by kernel_rfl)).trans (by kernel_rfl)
noncomputable def t20 (C:av) (x0:Value) (h:ak):Out:=
 ae (box x0 h) fun y1 h=>
 ae (fz Zl h) fun y2 h=>
 ae (dD 2 (.agg #[(.int .u64 0),(.int .u8 0)]) 0 [] h) fun y3 h=>
 ae (pu (az y1 6) h) fun y4 h=>
 ae (aK y4 h) fun y5 h=>
 ae (aO 2 16 y3 y5 h) fun y6 h=>
 ae (pu (az y1 6) h) fun y7 h=>
 ae (dH 1 y7 y6 h) fun _ h=>
 ae (dD 1 (.int .u8 0) 0 [] h) fun y8 h=>
 ae (pu (az y1 7) h) fun y9 h=>
 ae (aK y9 h) fun y10 h=>
 ae (aO 1 1 y8 y10 h) fun y11 h=>
 ae (pu (az y1 7) h) fun y12 h=>
 ae (dH 1 y12 y11 h) fun _ h=>
 ae (dD 1 (.int .u8 0) 0 [] h) fun y13 h=>
 ae (pu (az y1 8) h) fun y14 h=>
 ae (aK y14 h) fun y15 h=>
 ae (aO 1 1 y13 y15 h) fun y16 h=>
 ae (pu (az y1 8) h) fun y17 h=>
 ae (dH 1 y17 y16 h) fun _ h=>
 ae (dD 39 (.agg #[(.int .u8 0),(.int .u8 0),(.int .u8 0),(.int .u8 0),(.int .u8 0),(.int .u8 0),(.int .u8 0),(.int .u8 0),(.int .u8 0),(.int .u8 0),(.int .u8 0),(.int .u8 0),(.int .u8 0),(.int .u8 0),(.int .u8 0),(.int .u8 0),(.int .u8 0),(.int .u8 0),(.int .u8 0),(.int .u8 0),(.int .u8 0),(.int .u8 0),(.int .u8 0),(.int .u8 0),(.int .u8 0),(.int .u8 0),(.int .u8 0),(.int .u8 0),(.int .u8 0),(.int .u8 0),(.int .u8 0),(.int .u8 0),(.int .u8 0),(.int .i64 0),(.int .u64 0),(.int .u64 0),(.bool false),(.int .i64 0),(.int .i64 0)]) 0 [] h) fun y18 h=>
 ae (pu (az y1 42) h) fun y19 h=>
 ae (aK y19 h) fun y20 h=>
 ae (aO 39 88 y18 y20 h) fun y21 h=>
 ae (pu (az y1 42) h) fun y22 h=>
 ae (dH 1 y22 y21 h) fun _ h=>
 ae (dD 32 (.agg (List.replicate 32 (.int .u8 0)).toArray) 0 [] h) fun y23 h=>
 ae (pu (az y1 76) h) fun y24 h=>
 ae (pu (az y24 36) h) fun y25 h=>
 ae (aK y25 h) fun y26 h=>
 ae (aO 32 32 y23 y26 h) fun y27 h=>
 ae (pu (az y1 76) h) fun y28 h=>
 ae (pu (az y28 36) h) fun y29 h=>
 ae (dH 1 y29 y27 h) fun _ h=>
 ae (dD 1 (.int .u8 0) 0 [] h) fun y30 h=>
 ae (pu (az y1 113) h) fun y31 h=>
 ae (pu (az y31 1) h) fun y32 h=>
 ae (aK y32 h) fun y33 h=>
 ae (aO 1 1 y30 y33 h) fun y34 h=>
 ae (pu (az y1 113) h) fun y35 h=>
 ae (pu (az y35 1) h) fun y36 h=>
 ae (dH 1 y36 y34 h) fun _ h=>
 ae (bP 116 y1 h) fun y37 h=>
 ae (dH 116 y2 y37 h) fun _ h=>
 ax Tryz.prog Tryz.f20.results.toList (aX 38 (up (bs [x0]) [(1,y1),(2,y2),(3,y3),(4,y4),(5,y5),(6,y6),(7,y7),(8,y8),(9,y9),(10,y10),(11,y11),(12,y12),(13,y13),(14,y14),(15,y15),(16,y16),(17,y17),(18,y18),(19,y19),(20,y20),(21,y21),(22,y22),(23,y23),(24,y24),(25,y25),(26,y26),(27,y27),(28,y28),(29,y29),(30,y30),(31,y31),(32,y32),(33,y33),(34,y34),(35,y35),(36,y36),(37,y37)])) h
theorem t20_eq (C:av) (x0:Value) (h:ak):aY Tryz.prog C Tryz.f20 [x0] h=t20 C x0 h:=
 (aI Tryz.prog C Tryz.f20 [x0] h (by kernel_rfl)).trans (by kernel_rfl)
noncomputable def t69 (C:av) (x0:Value) (h:ak):Out:=
 ae (some ((.slice none 0 0),h)) fun y2 h=>
 ae (some (x0,h)) fun y3 h=>
 ae (pu (bin Tryz.prog .eql 22 y3 (.slice none 0 0)) h) fun y4 h=>
 (match y4 with
 | .bool true=>
 ae (some ((.slice none 0 0),h)) fun y2_1 h=>
 some (y2_1,h)
 | .bool false=>
 ae (dD 1 (.int .u8 0) 0 [] h) fun y5 h=>
 ae (some (x0,h)) fun y6 h=>
 ae (aO 1 1 y5 y6 h) fun y7 h=>
 ae (some (y7,h)) fun y2_1 h=>
 some (y2_1,h)
 |_=>none)
theorem t69_eq (C:av) (x0:Value) (h:ak):aY Tryz.prog C Tryz.f69 [x0] h=t69 C x0 h:=
 (aI Tryz.prog C Tryz.f69 [x0] h (by kernel_rfl)).trans (by kernel_rfl)
end Go.Proofs.YtjghlcdidopcpaaGreatDoor

namespace Go.Proofs.YtjghlcdidopcpaaGreatDoor
open Go Go.Abs
abbrev aN (n:Nat):Value := .int .i64 (n:Int)
theorem add3 {a b:Nat} (h:a+b≤9223372036854775807):bin Tryz.prog .add 3 (aN a) (.int .i64 (b:Int))=some (aN (a+b)):=by
 unfold aN;rw [bin_add,dX (by omega) (by omega),Int.natCast_add]
theorem eT {a:Nat} (h:a+1≤9223372036854775807):bin Tryz.prog .add 3 (aN a) (.int .i64 1)=some (aN (a+1)):=add3 h
theorem dI (a b:Nat):bin Tryz.prog .lss 3 (aN a) (aN b)=some (.bool (decide (a<b))):=by
 rw [aD]
 congr 2
 by_cases e:a<b
 ·rw [decide_eq_true e,decide_eq_true (by omega)]
 ·rw [decide_eq_false e,decide_eq_false (by omega)]
theorem neq3 (a b:Nat):bin Tryz.prog .neq 3 (aN a) (aN b)=some (.bool (!decide (a=b))):=by
 rw [aA]
 congr 2
 by_cases e:a=b
 ·subst e;simp
 ·have:(a:Int)≠b:=by omega
  rw [decide_eq_false e,bne_iff_ne.2 this];rfl
def dn (h:ak) (ks:List Kd) (v:Value) (n:Nat) (cs:List Value):Prop:=
 ∃ a c,v = .slice a n c∧(a=none→n=0)∧TypedN ks n cs∧(0<n → ∃ b off s k,a=some ⟨b,off,s⟩∧h.get b=some k∧off+n*ks.length≤k.length∧(k.drop off).take (n*ks.length)=cs)
def slB:Value→Option Nat
 | .slice (some a) (_+1) _=>some a.block
 |_=>none
theorem dn.dV {h h':ak} {ks:List Kd} {v:Value} {n:Nat} {cs:List Value} (x:dn h ks v n cs) {B:Nat→Prop} (k:Kept h h' B) (hB : ∀ b,slB v=some b → ¬B b):dn h' ks v n cs:=by
 obtain ⟨a,c,rfl,h1,h2,h3⟩:=x
 refine ⟨a,c,rfl,h1,h2,fun hn => ?_⟩
 obtain ⟨b,off,s,q,rfl,h4,h5⟩:=h3 hn
 obtain ⟨m,rfl⟩ : ∃ m,n=m+1:=⟨n-1,by omega⟩
 exact ⟨b,off,s,q,rfl,k.getE h4 (hB b rfl),h5⟩
theorem dn.bm {h h':ak} {ks:List Kd} {v:Value} {n:Nat} {cs:List Value} (x:dn h ks v n cs) (k:Old h h'):dn h' ks v n cs:=x.dV k (fun _ _ h=>h)
theorem dn.len {h:ak} {ks:List Kd} {v:Value} {n:Nat} {cs:List Value} (x:dn h ks v n cs):bE v=some (aN n):=by
 obtain ⟨a,c,rfl,_⟩:=x
 rfl
theorem dn.cells {h:ak} {ks:List Kd} {v:Value} {n:Nat} {cs:List Value} (x:dn h ks v n cs):cs.length=n*ks.length:=by
 obtain ⟨a,c,rfl,_,h2,_⟩:=x
 exact h2.1
theorem dn.typed {h:ak} {ks:List Kd} {v:Value} {n:Nat} {cs:List Value} (x:dn h ks v n cs):TypedN ks n cs:=by
 obtain ⟨a,c,rfl,_,h2,_⟩:=x
 exact h2
theorem dn.lt {h:ak} {ks:List Kd} {v:Value} {n:Nat} {cs:List Value} (x:dn h ks v n cs) {b:Nat} (hb:slB v=some b):b<h.next:=by
 obtain ⟨a,c,rfl,_,_,h3⟩:=x
 cases n with
 |zero=>cases a<;>cases hb
 |succ m=>
  obtain ⟨b',off,s,k,rfl,h4,_⟩:=h3 (by omega)
  cases hb
  exact h.bT h4
def el (z:Nat) (cs:List Value) (i:Nat):List Value:=(cs.drop (i*z)).take z
theorem mul_le {i n z:Nat} (hi:i<n):i*z+z≤n*z:=by
 have:=Nat.mul_le_mul_right z (show i+1≤n by omega)
 rw [Nat.add_mul,Nat.one_mul] at this
 exact this
theorem dn.at {h:ak} {ks:List Kd} {v:Value} {n:Nat} {cs:List Value} (x:dn h ks v n cs) {i:Nat} (hi:i<n) : ∃ b off k,slB v=some b∧cD ks.length v (aN i)=some (ptr b (off+i*ks.length))∧h.get b=some k∧off+n*ks.length≤k.length∧(k.drop (off+i*ks.length)).take ks.length=el ks.length cs i ∧
  bP ks.length (ptr b (off+i*ks.length)) h=some (.agg (el ks.length cs i).toArray,h)∧Typed ks (el ks.length cs i):=by
 obtain ⟨a,c,rfl,h1,h2,h3⟩:=x
 obtain ⟨b,off,s,k,rfl,h4,h5,h6⟩:=h3 (by omega)
 have hm:=mul_le (z:=ks.length) hi
 have hel:(k.drop (off+i*ks.length)).take ks.length=el ks.length cs i:=by
  unfold el
  rw [←h6,List.drop_take,List.take_take,List.drop_drop,Nat.min_eq_left (by omega)]
 have ht:=h2.2 i hi
 obtain ⟨m,rfl⟩ : ∃ m,n=m+1:=⟨n-1,by omega⟩
 refine ⟨b,off,k,rfl,?_,h4,h5,hel,?_,ht⟩
 ·unfold cD
  simp only []
  rw [if_pos (by omega),Int.toNat_natCast]
 ·have:=ldN_at (n:=ks.length) h4 (o:=off+i*ks.length) (by omega) (by rw [hel];exact ht.all.1)
  rw [hel] at this
  exact this
theorem els_eq {z n:Nat} {cs ds:List Value} (hz:0<z) (h1:cs.length=n*z) (h2:ds.length=n*z) (h : ∀ i,i<n→el z cs i=el z ds i):cs=ds:=by
 refine List.ext_getElem? fun j => ?_
 by_cases hj:j<n*z
 ·have hi:j/z<n:=(Nat.div_lt_iff_lt_mul hz).2 hj
  have hm:=Nat.mod_lt j hz
  have e:j/z*z+j%z=j:=by
   have:=Nat.div_add_mod j z
   rw [Nat.mul_comm] at this
   exact this
  have:=congrArg (·[j%z]?) (h _ hi)
  unfold el at this
  simp only [List.getElem?_take,if_pos hm,List.getElem?_drop,e] at this
  exact this
 ·rw [List.getElem?_eq_none (by omega),List.getElem?_eq_none (by omega)]
def eqInvA (h0:ak) (v w:Value) (z n:Nat) (cs ds:List Value) (k:Nat) (y:Nat→Value) (g:ak):Prop:=
 ∃ i,i+k=n∧y 0=v∧y 1=w∧y 12=aN n∧y 13=aN i∧g=h0 ∧ ∀ j,j<i→el z cs j=el z ds j
def eqInvB (h0:ak) (v w:Value) (z n:Nat) (cs ds:List Value) (k:Nat) (y:Nat→Value) (g:ak):Prop:=
 ∃ i,i+k=n∧y 0=v∧y 1=w∧y 5=aN i∧g=h0 ∧ ∀ j,j<i→el z cs j=el z ds j
def eqFin (h0:ak) (z n:Nat) (cs ds:List Value) (ex:Ex) (y:Nat→Value) (g:ak):Prop:=
 g=h0∧((ex = .ret∧y 4 = .bool false∧cs≠ds)∨(ex = .exit 0 ∧ ∀ j,j<n→el z cs j=el z ds j))
theorem snoc_el {z n:Nat} {cs ds:List Value} (h : ∀ j,j<n→el z cs j=el z ds j) (e:el z cs n=el z ds n) : ∀ j,j<n+1→el z cs j=el z ds j:=fun j hj=>by
 by_cases q:j=n
 ·subst q;exact e
 ·exact h j (by omega)
theorem byte_el {h:ak} {v:Value} {n:Nat} {cs:List Value} (x:dn h [.u8] v n cs) {i:Nat} (hi:i<n) : ∃ (b off m:Nat),cD 1 v (aN i)=some (ptr b (off+i*1))∧aK (ptr b (off+i*1)) h=some (.int .u8 m,h)∧m<256∧el 1 cs i = [.int .u8 m]:=by
 obtain ⟨b,off,k,_,h1,h2,h3,h4,_,h5⟩:=x.at hi
 obtain ⟨w,hw,m,rfl,hm⟩:=h5.2 0 .u8 rfl
 have hl:(el 1 cs i).length=1:=h5.1
 have he:el 1 cs i = [.int .u8 m]:=by
  match he:el 1 cs i,hl with
  | [q],_=>
    have hw:(el 1 cs i)[0]? = some (.int .u8 m):=hw
    rw [he] at hw
    cases hw;rfl
 refine ⟨b,off,m,h1,bf h2 (c := .int .u8 m) ?_ rfl,hm,he⟩
 have h4:(k.drop (off+i*1)).take 1=el 1 cs i:=h4
 have:=congrArg (·[0]?) h4
 simp only [List.getElem?_take,if_pos (show 0<1 by omega),List.getElem?_drop] at this
 rw [he] at this
 simpa using this
theorem is53:bB Tryz.prog 53 Tryz.f53:=⟨by kernel_rfl,by kernel_rfl,by kernel_rfl,by kernel_rfl⟩
theorem results53:Tryz.f53.results.toList = [.tmp 4]:=by kernel_rfl
theorem b53_exit (C:av) (e:Env) (h:ak):b53_6 C 0 e h=k53_4 C e h:=rfl
theorem round53 {h0:ak} {v w:Value} {n:Nat} {cs ds:List Value} (x:dn h0 memK v n cs) (y':dn h0 memK w n ds) (hn:n≤1000000) : ∀ k y g,eqInvA h0 v w 2 n cs ds k y g→dw 26 (eqInvA h0 v w 2 n cs ds) (eqFin h0 2 n cs ds) k (t53l53_11010 CW y g):=by
 rintro k y g ⟨i,hik,y0,y1,y12,y13,rfl,he⟩
 unfold t53l53_11010
 by_cases hi:i<n
 ·obtain ⟨b,o,q,_,a1,_,_,_,a2,a3⟩:=x.at hi
  obtain ⟨b',o',q',_,b1,_,_,_,b2,b3⟩:=y'.at hi
  have a1:cD 2 v (aN i)=some (ptr b (o+i*2)):=a1
  have b1:cD 2 w (aN i)=some (ptr b' (o'+i*2)):=b1
  have a2:bP 2 (ptr b (o+i*2)) g=some (.agg (el 2 cs i).toArray,g):=a2
  have b2:bP 2 (ptr b' (o'+i*2)) g=some (.agg (el 2 ds i).toArray,g):=b2
  obtain ⟨r,r1,_,r2⟩:=eq58 _ _ a3 b3
  have r2:bin Tryz.prog .neq 58 (.agg (el 2 cs i).toArray) (.agg (el 2 ds i).toArray)=some (.bool !r):=r2
  have r1:r=true↔el 2 cs i=el 2 ds i:=r1
  simp -implicitDefEqProofs only [y13,y12,dI,y0,y1,decide_eq_true hi,ah,aq,a1,a2,b1,b2,r2]
  cases r with
  |true=>
   simp -implicitDefEqProofs only [Bool.not_true, ah, aq, eT (show i+1≤9223372036854775807 by omega)]
   exact dw.next (k-1) (by omega) ⟨i+1,by omega,y0,y1,y12,rfl,rfl,snoc_el he (r1.1 rfl)⟩
  |false=>
   simp -implicitDefEqProofs only [Bool.not_false]
   exact dw.ret ⟨rfl,.inl ⟨rfl,rfl,fun h=>by
    subst h
    exact absurd (r1.2 rfl) (by decide)⟩⟩
 ·simp -implicitDefEqProofs only [y13,y12,dI,decide_eq_false hi]
  exact dw.out 0 ⟨rfl,.inr ⟨rfl,fun j hj=>he j (by omega)⟩⟩
theorem r53 {h:ak} {v w:Value} {n m:Nat} {cs ds:List Value} (hG:4≤h.n0) (x:dn h memK v n cs) (y':dn h memK w m ds) (hn:n≤1000000) : ∃ r:Bool,CW 53 [v,w] h=some (.bool r,h)∧(r=true↔cs=ds):=by
 have lx:=x.cells
 have ly:=y'.cells
 have hz:(memK:List Kd).length=2:=rfl
 rw [hz] at lx ly
 by_cases e:n=m
 ·subst e
  have key : ∃ r:Bool,t53 CW v w h=some (.bool r,h)∧(r=true↔cs=ds):=by
   unfold t53
   simp -implicitDefEqProofs only [ah, x.len, y'.len, aq, neq3]
   refine cy (Q:=fun o:Out => ∃ r:Bool,o=some (Value.bool r,h)∧(r=true↔cs=ds)) (cn (t53l53_11010_eq CW) (round53 x y' hn) n (by have:rounds=18446744073709551616:=rfl;omega)
    ⟨0,Nat.zero_add _,rfl,rfl,rfl,rfl,rfl,fun j hj=>absurd hj (Nat.not_lt_zero j)⟩) ?_
   rintro ex z g ⟨rfl,⟨rfl,z4,hne⟩|⟨rfl,he⟩⟩
   ·rw [eL,fv (t:=4) results53 (by decide),z4]
    exact ⟨false,rfl,fun h=>(by cases h),fun h=>absurd h hne⟩
   ·simp -implicitDefEqProofs only [bG,b53_exit,t53k53_4_eq]
    unfold t53k53_4
    simp -implicitDefEqProofs only [ah]
    exact ⟨true,rfl,fun _=>els_eq (by decide) lx ly he,fun _=>rfl⟩
  obtain ⟨r,k1,k2⟩:=key
  exact ⟨r,aG is53 hG rfl ((t53_eq _ _ _ _).trans k1),k2⟩
 ·refine ⟨false,aG is53 hG rfl ((t53_eq _ _ _ _).trans ?_),fun h=>(by cases h),fun h => ?_⟩
  ·unfold t53
   simp -implicitDefEqProofs only [ah,x.len,y'.len,aq,neq3,decide_eq_false e,Bool.not_false]
  ·rw [h,ly] at lx
   exact absurd (Nat.eq_of_mul_eq_mul_right (by decide) lx).symm e
theorem is54:bB Tryz.prog 54 Tryz.f54:=⟨by kernel_rfl,by kernel_rfl,by kernel_rfl,by kernel_rfl⟩
theorem results54:Tryz.f54.results.toList = [.tmp 4]:=by kernel_rfl
theorem b54_exit (C:av) (e:Env) (h:ak):b54_6 C 0 e h=k54_4 C e h:=rfl
theorem round54 {h0:ak} {v w:Value} {n:Nat} {cs ds:List Value} (x:dn h0 [.u8] v n cs) (y':dn h0 [.u8] w n ds) (hn:n≤1000000) : ∀ k y g,eqInvA h0 v w 1 n cs ds k y g→dw 26 (eqInvA h0 v w 1 n cs ds) (eqFin h0 1 n cs ds) k (t54l54_11010 CW y g):=by
 rintro k y g ⟨i,hik,y0,y1,y12,y13,rfl,he⟩
 unfold t54l54_11010
 by_cases hi:i<n
 ·obtain ⟨b,o,m,a1,a2,a3,a4⟩:=byte_el x hi
  obtain ⟨b',o',m',b1,b2,b3,b4⟩:=byte_el y' hi
  have hb:bin Tryz.prog .neq 5 (.int .u8 (m:Int)) (.int .u8 (m':Int))=some (.bool ((m:Int) != m')):=aA ..
  simp -implicitDefEqProofs only [y13,y12,dI,y0,y1,decide_eq_true hi,ah,aq,a1,a2,b1,b2,hb]
  by_cases e:m=m'
  ·subst e
   simp -implicitDefEqProofs only [bne_self_eq_false, ah, aq, eT (show i+1≤9223372036854775807 by omega)]
   exact dw.next (k-1) (by omega) ⟨i+1,by omega,y0,y1,y12,rfl,rfl,snoc_el he (a4.trans b4.symm)⟩
  ·have:((m:Int) != m')=true:=by simpa using fun h:(m:Int)=m'=>e (by omega)
   simp -implicitDefEqProofs only [this]
   exact dw.ret ⟨rfl,.inl ⟨rfl,rfl,fun h=>e (by
    subst h
    rw [a4] at b4
    simp at b4
    omega)⟩⟩
 ·simp -implicitDefEqProofs only [y13,y12,dI,decide_eq_false hi]
  exact dw.out 0 ⟨rfl,.inr ⟨rfl,fun j hj=>he j (by omega)⟩⟩
theorem r54 {h:ak} {v w:Value} {n m:Nat} {cs ds:List Value} (hG:4≤h.n0) (x:dn h [.u8] v n cs) (y':dn h [.u8] w m ds) (hn:n≤1000000) : ∃ r:Bool,CW 54 [v,w] h=some (.bool r,h)∧(r=true↔cs=ds):=by
 have lx:=x.cells
 have ly:=y'.cells
 have hz:([.u8]:List Kd).length=1:=rfl
 rw [hz] at lx ly
 by_cases e:n=m
 ·subst e
  have key : ∃ r:Bool,t54 CW v w h=some (.bool r,h)∧(r=true↔cs=ds):=by
   unfold t54
   simp -implicitDefEqProofs only [ah, x.len, y'.len, aq, neq3]
   refine cy (Q:=fun o:Out => ∃ r:Bool,o=some (Value.bool r,h)∧(r=true↔cs=ds)) (cn (t54l54_11010_eq CW) (round54 x y' hn) n (by have:rounds=18446744073709551616:=rfl;omega)
    ⟨0,Nat.zero_add _,rfl,rfl,rfl,rfl,rfl,fun j hj=>absurd hj (Nat.not_lt_zero j)⟩) ?_
   rintro ex z g ⟨rfl,⟨rfl,z4,hne⟩|⟨rfl,he⟩⟩
   ·rw [eL,fv (t:=4) results54 (by decide),z4]
    exact ⟨false,rfl,fun h=>(by cases h),fun h=>absurd h hne⟩
   ·simp -implicitDefEqProofs only [bG,b54_exit,t54k54_4_eq]
    unfold t54k54_4
    simp -implicitDefEqProofs only [ah]
    exact ⟨true,rfl,fun _=>els_eq (by decide) lx ly he,fun _=>rfl⟩
  obtain ⟨r,k1,k2⟩:=key
  exact ⟨r,aG is54 hG rfl ((t54_eq _ _ _ _).trans k1),k2⟩
 ·refine ⟨false,aG is54 hG rfl ((t54_eq _ _ _ _).trans ?_),fun h=>(by cases h),fun h => ?_⟩
  ·unfold t54
   simp -implicitDefEqProofs only [ah,x.len,y'.len,aq,neq3,decide_eq_false e,Bool.not_false]
  ·rw [h,ly] at lx
   exact absurd (Nat.eq_of_mul_eq_mul_right (by decide) lx).symm e
theorem is55:bB Tryz.prog 55 Tryz.f55:=⟨by kernel_rfl,by kernel_rfl,by kernel_rfl,by kernel_rfl⟩
theorem results55:Tryz.f55.results.toList = [.tmp 4]:=by kernel_rfl
theorem b55_exit (C:av) (e:Env) (h:ak):b55_6 C 0 e h=k55_4 C e h:=rfl
theorem round55 {h0:ak} {v w:Value} {n:Nat} {cs ds:List Value} (x:dn h0 recK v n cs) (y':dn h0 recK w n ds) (hn:n≤1000000) : ∀ k y g,eqInvA h0 v w 39 n cs ds k y g→dw 26 (eqInvA h0 v w 39 n cs ds) (eqFin h0 39 n cs ds) k (t55l55_11010 CW y g):=by
 rintro k y g ⟨i,hik,y0,y1,y12,y13,rfl,he⟩
 unfold t55l55_11010
 by_cases hi:i<n
 ·obtain ⟨b,o,q,_,a1,_,_,_,a2,a3⟩:=x.at hi
  obtain ⟨b',o',q',_,b1,_,_,_,b2,b3⟩:=y'.at hi
  have a1:cD 39 v (aN i)=some (ptr b (o+i*39)):=a1
  have b1:cD 39 w (aN i)=some (ptr b' (o'+i*39)):=b1
  have a2:bP 39 (ptr b (o+i*39)) g=some (.agg (el 39 cs i).toArray,g):=a2
  have b2:bP 39 (ptr b' (o'+i*39)) g=some (.agg (el 39 ds i).toArray,g):=b2
  obtain ⟨r,r1,_,r2⟩:=eq61 _ _ a3 b3
  have r2:bin Tryz.prog .neq 61 (.agg (el 39 cs i).toArray) (.agg (el 39 ds i).toArray)=some (.bool !r):=r2
  have r1:r=true↔el 39 cs i=el 39 ds i:=r1
  simp -implicitDefEqProofs only [y13,y12,dI,y0,y1,decide_eq_true hi,ah,aq,a1,a2,b1,b2,r2]
  cases r with
  |true=>
   simp -implicitDefEqProofs only [Bool.not_true, ah, aq, eT (show i+1≤9223372036854775807 by omega)]
   exact dw.next (k-1) (by omega) ⟨i+1,by omega,y0,y1,y12,rfl,rfl,snoc_el he (r1.1 rfl)⟩
  |false=>
   simp -implicitDefEqProofs only [Bool.not_false]
   exact dw.ret ⟨rfl,.inl ⟨rfl,rfl,fun h=>by
    subst h
    exact absurd (r1.2 rfl) (by decide)⟩⟩
 ·simp -implicitDefEqProofs only [y13,y12,dI,decide_eq_false hi]
  exact dw.out 0 ⟨rfl,.inr ⟨rfl,fun j hj=>he j (by omega)⟩⟩
theorem r55 {h:ak} {v w:Value} {n m:Nat} {cs ds:List Value} (hG:4≤h.n0) (x:dn h recK v n cs) (y':dn h recK w m ds) (hn:n≤1000000) : ∃ r:Bool,CW 55 [v,w] h=some (.bool r,h)∧(r=true↔cs=ds):=by
 have lx:=x.cells
 have ly:=y'.cells
 have hz:(recK:List Kd).length=39:=rfl
 rw [hz] at lx ly
 by_cases e:n=m
 ·subst e
  have key : ∃ r:Bool,t55 CW v w h=some (.bool r,h)∧(r=true↔cs=ds):=by
   unfold t55
   simp -implicitDefEqProofs only [ah, x.len, y'.len, aq, neq3]
   refine cy (Q:=fun o:Out => ∃ r:Bool,o=some (Value.bool r,h)∧(r=true↔cs=ds)) (cn (t55l55_11010_eq CW) (round55 x y' hn) n (by have:rounds=18446744073709551616:=rfl;omega)
    ⟨0,Nat.zero_add _,rfl,rfl,rfl,rfl,rfl,fun j hj=>absurd hj (Nat.not_lt_zero j)⟩) ?_
   rintro ex z g ⟨rfl,⟨rfl,z4,hne⟩|⟨rfl,he⟩⟩
   ·rw [eL,fv (t:=4) results55 (by decide),z4]
    exact ⟨false,rfl,fun h=>(by cases h),fun h=>absurd h hne⟩
   ·simp -implicitDefEqProofs only [bG,b55_exit,t55k55_4_eq]
    unfold t55k55_4
    simp -implicitDefEqProofs only [ah]
    exact ⟨true,rfl,fun _=>els_eq (by decide) lx ly he,fun _=>rfl⟩
  obtain ⟨r,k1,k2⟩:=key
  exact ⟨r,aG is55 hG rfl ((t55_eq _ _ _ _).trans k1),k2⟩
 ·refine ⟨false,aG is55 hG rfl ((t55_eq _ _ _ _).trans ?_),fun h=>(by cases h),fun h => ?_⟩
  ·unfold t55
   simp -implicitDefEqProofs only [ah,x.len,y'.len,aq,neq3,decide_eq_false e,Bool.not_false]
  ·rw [h,ly] at lx
   exact absurd (Nat.eq_of_mul_eq_mul_right (by decide) lx).symm e
theorem is86:bB Tryz.prog 86 Tryz.f86:=⟨by kernel_rfl,by kernel_rfl,by kernel_rfl,by kernel_rfl⟩
theorem results86:Tryz.f86.results.toList = [.tmp 4]:=by kernel_rfl
theorem b86_exit (C:av) (e:Env) (h:ak):b86_6 C 0 e h=k86_4 C e h:=rfl
theorem round86 {h0:ak} {v w:Value} {n:Nat} {cs ds:List Value} (x:dn h0 fF v n cs) (y':dn h0 fF w n ds) (hn:n≤1000000) : ∀ k y g,eqInvA h0 v w 32 n cs ds k y g→dw 26 (eqInvA h0 v w 32 n cs ds) (eqFin h0 32 n cs ds) k (t86l86_11010 CW y g):=by
 rintro k y g ⟨i,hik,y0,y1,y12,y13,rfl,he⟩
 unfold t86l86_11010
 by_cases hi:i<n
 ·obtain ⟨b,o,q,_,a1,_,_,_,a2,a3⟩:=x.at hi
  obtain ⟨b',o',q',_,b1,_,_,_,b2,b3⟩:=y'.at hi
  have a1:cD 32 v (aN i)=some (ptr b (o+i*32)):=a1
  have b1:cD 32 w (aN i)=some (ptr b' (o'+i*32)):=b1
  have a2:bP 32 (ptr b (o+i*32)) g=some (.agg (el 32 cs i).toArray,g):=a2
  have b2:bP 32 (ptr b' (o'+i*32)) g=some (.agg (el 32 ds i).toArray,g):=b2
  obtain ⟨r,r1,_,r2⟩:=eq28 _ _ a3 b3
  have r2:bin Tryz.prog .neq 28 (.agg (el 32 cs i).toArray) (.agg (el 32 ds i).toArray)=some (.bool !r):=r2
  have r1:r=true↔el 32 cs i=el 32 ds i:=r1
  simp -implicitDefEqProofs only [y13,y12,dI,y0,y1,decide_eq_true hi,ah,aq,a1,a2,b1,b2,r2]
  cases r with
  |true=>
   simp -implicitDefEqProofs only [Bool.not_true, ah, aq, eT (show i+1≤9223372036854775807 by omega)]
   exact dw.next (k-1) (by omega) ⟨i+1,by omega,y0,y1,y12,rfl,rfl,snoc_el he (r1.1 rfl)⟩
  |false=>
   simp -implicitDefEqProofs only [Bool.not_false]
   exact dw.ret ⟨rfl,.inl ⟨rfl,rfl,fun h=>by
    subst h
    exact absurd (r1.2 rfl) (by decide)⟩⟩
 ·simp -implicitDefEqProofs only [y13,y12,dI,decide_eq_false hi]
  exact dw.out 0 ⟨rfl,.inr ⟨rfl,fun j hj=>he j (by omega)⟩⟩
theorem r86 {h:ak} {v w:Value} {n m:Nat} {cs ds:List Value} (hG:4≤h.n0) (x:dn h fF v n cs) (y':dn h fF w m ds) (hn:n≤1000000) : ∃ r:Bool,CW 86 [v,w] h=some (.bool r,h)∧(r=true↔cs=ds):=by
 have lx:=x.cells
 have ly:=y'.cells
 have hz:(fF:List Kd).length=32:=rfl
 rw [hz] at lx ly
 by_cases e:n=m
 ·subst e
  have key : ∃ r:Bool,t86 CW v w h=some (.bool r,h)∧(r=true↔cs=ds):=by
   unfold t86
   simp -implicitDefEqProofs only [ah, x.len, y'.len, aq, neq3]
   refine cy (Q:=fun o:Out => ∃ r:Bool,o=some (Value.bool r,h)∧(r=true↔cs=ds)) (cn (t86l86_11010_eq CW) (round86 x y' hn) n (by have:rounds=18446744073709551616:=rfl;omega)
    ⟨0,Nat.zero_add _,rfl,rfl,rfl,rfl,rfl,fun j hj=>absurd hj (Nat.not_lt_zero j)⟩) ?_
   rintro ex z g ⟨rfl,⟨rfl,z4,hne⟩|⟨rfl,he⟩⟩
   ·rw [eL,fv (t:=4) results86 (by decide),z4]
    exact ⟨false,rfl,fun h=>(by cases h),fun h=>absurd h hne⟩
   ·simp -implicitDefEqProofs only [bG,b86_exit,t86k86_4_eq]
    unfold t86k86_4
    simp -implicitDefEqProofs only [ah]
    exact ⟨true,rfl,fun _=>els_eq (by decide) lx ly he,fun _=>rfl⟩
  obtain ⟨r,k1,k2⟩:=key
  exact ⟨r,aG is86 hG rfl ((t86_eq _ _ _ _).trans k1),k2⟩
 ·refine ⟨false,aG is86 hG rfl ((t86_eq _ _ _ _).trans ?_),fun h=>(by cases h),fun h => ?_⟩
  ·unfold t86
   simp -implicitDefEqProofs only [ah,x.len,y'.len,aq,neq3,decide_eq_false e,Bool.not_false]
  ·rw [h,ly] at lx
   exact absurd (Nat.eq_of_mul_eq_mul_right (by decide) lx).symm e
theorem is43:bB Tryz.prog 43 Tryz.f43:=⟨by kernel_rfl,by kernel_rfl,by kernel_rfl,by kernel_rfl⟩
theorem results43:Tryz.f43.results.toList = [.tmp 4]:=by kernel_rfl
theorem b43_exit (C:av) (e:Env) (h:ak):b43_6 C 0 e h=k43_4 C e h:=rfl
theorem round43 {h0:ak} {v w:Value} {n:Nat} {cs ds:List Value} (x:dn h0 memK v n cs) (y':dn h0 memK w n ds) (hn:n≤1000000) : ∀ k y g,eqInvB h0 v w 2 n cs ds k y g→dw 26 (eqInvB h0 v w 2 n cs ds) (eqFin h0 2 n cs ds) k (t43l43_11010 CW y g):=by
 rintro k y g ⟨i,hik,y0,y1,y5,rfl,he⟩
 have hl:=x.len
 unfold t43l43_11010
 by_cases hi:i<n
 ·obtain ⟨b,o,q,_,a1,_,_,_,a2,a3⟩:=x.at hi
  obtain ⟨b',o',q',_,b1,_,_,_,b2,b3⟩:=y'.at hi
  have a1:cD 2 v (aN i)=some (ptr b (o+i*2)):=a1
  have b1:cD 2 w (aN i)=some (ptr b' (o'+i*2)):=b1
  have a2:bP 2 (ptr b (o+i*2)) g=some (.agg (el 2 cs i).toArray,g):=a2
  have b2:bP 2 (ptr b' (o'+i*2)) g=some (.agg (el 2 ds i).toArray,g):=b2
  obtain ⟨r,r1,_,r2⟩:=eq58 _ _ a3 b3
  have r2:bin Tryz.prog .neq 58 (.agg (el 2 cs i).toArray) (.agg (el 2 ds i).toArray)=some (.bool !r):=r2
  have r1:r=true↔el 2 cs i=el 2 ds i:=r1
  simp -implicitDefEqProofs only [y5, hl, dI, ah, aq, y0, y1, decide_eq_true hi, ah, aq, a1, a2, b1, b2, r2]
  cases r with
  |true=>
   simp -implicitDefEqProofs only [Bool.not_true, ah, aq, eT (show i+1≤9223372036854775807 by omega)]
   exact dw.next (k-1) (by omega) ⟨i+1,by omega,y0,y1,rfl,rfl,snoc_el he (r1.1 rfl)⟩
  |false=>
   simp -implicitDefEqProofs only [Bool.not_false]
   exact dw.ret ⟨rfl,.inl ⟨rfl,rfl,fun h=>by
    subst h
    exact absurd (r1.2 rfl) (by decide)⟩⟩
 ·simp -implicitDefEqProofs only [y5,y0,hl,dI,ah,aq,decide_eq_false hi]
  exact dw.out 0 ⟨rfl,.inr ⟨rfl,fun j hj=>he j (by omega)⟩⟩
theorem r43 {h:ak} {v w:Value} {n m:Nat} {cs ds:List Value} (hG:4≤h.n0) (x:dn h memK v n cs) (y':dn h memK w m ds) (hn:n≤1000000) : ∃ r:Bool,CW 43 [v,w] h=some (.bool r,h)∧(r=true↔cs=ds):=by
 have lx:=x.cells
 have ly:=y'.cells
 have hz:(memK:List Kd).length=2:=rfl
 rw [hz] at lx ly
 by_cases e:n=m
 ·subst e
  have key : ∃ r:Bool,t43 CW v w h=some (.bool r,h)∧(r=true↔cs=ds):=by
   unfold t43
   simp -implicitDefEqProofs only [ah, x.len, y'.len, aq, neq3]
   refine cy (Q:=fun o:Out => ∃ r:Bool,o=some (Value.bool r,h)∧(r=true↔cs=ds)) (cn (t43l43_11010_eq CW) (round43 x y' hn) n (by have:rounds=18446744073709551616:=rfl;omega)
    ⟨0,Nat.zero_add _,rfl,rfl,rfl,rfl,fun j hj=>absurd hj (Nat.not_lt_zero j)⟩) ?_
   rintro ex z g ⟨rfl,⟨rfl,z4,hne⟩|⟨rfl,he⟩⟩
   ·rw [eL,fv (t:=4) results43 (by decide),z4]
    exact ⟨false,rfl,fun h=>(by cases h),fun h=>absurd h hne⟩
   ·simp -implicitDefEqProofs only [bG,b43_exit,t43k43_4_eq]
    unfold t43k43_4
    simp -implicitDefEqProofs only [ah]
    exact ⟨true,rfl,fun _=>els_eq (by decide) lx ly he,fun _=>rfl⟩
  obtain ⟨r,k1,k2⟩:=key
  exact ⟨r,aG is43 hG rfl ((t43_eq _ _ _ _).trans k1),k2⟩
 ·refine ⟨false,aG is43 hG rfl ((t43_eq _ _ _ _).trans ?_),fun h=>(by cases h),fun h => ?_⟩
  ·unfold t43
   simp -implicitDefEqProofs only [ah,x.len,y'.len,aq,neq3,decide_eq_false e,Bool.not_false]
  ·rw [h,ly] at lx
   exact absurd (Nat.eq_of_mul_eq_mul_right (by decide) lx).symm e
theorem is44:bB Tryz.prog 44 Tryz.f44:=⟨by kernel_rfl,by kernel_rfl,by kernel_rfl,by kernel_rfl⟩
theorem results44:Tryz.f44.results.toList = [.tmp 4]:=by kernel_rfl
theorem b44_exit (C:av) (e:Env) (h:ak):b44_6 C 0 e h=k44_4 C e h:=rfl
theorem round44 {h0:ak} {v w:Value} {n:Nat} {cs ds:List Value} (x:dn h0 recK v n cs) (y':dn h0 recK w n ds) (hn:n≤1000000) : ∀ k y g,eqInvB h0 v w 39 n cs ds k y g→dw 26 (eqInvB h0 v w 39 n cs ds) (eqFin h0 39 n cs ds) k (t44l44_11010 CW y g):=by
 rintro k y g ⟨i,hik,y0,y1,y5,rfl,he⟩
 have hl:=x.len
 unfold t44l44_11010
 by_cases hi:i<n
 ·obtain ⟨b,o,q,_,a1,_,_,_,a2,a3⟩:=x.at hi
  obtain ⟨b',o',q',_,b1,_,_,_,b2,b3⟩:=y'.at hi
  have a1:cD 39 v (aN i)=some (ptr b (o+i*39)):=a1
  have b1:cD 39 w (aN i)=some (ptr b' (o'+i*39)):=b1
  have a2:bP 39 (ptr b (o+i*39)) g=some (.agg (el 39 cs i).toArray,g):=a2
  have b2:bP 39 (ptr b' (o'+i*39)) g=some (.agg (el 39 ds i).toArray,g):=b2
  obtain ⟨r,r1,_,r2⟩:=eq61 _ _ a3 b3
  have r2:bin Tryz.prog .neq 61 (.agg (el 39 cs i).toArray) (.agg (el 39 ds i).toArray)=some (.bool !r):=r2
  have r1:r=true↔el 39 cs i=el 39 ds i:=r1
  simp -implicitDefEqProofs only [y5, hl, dI, ah, aq, y0, y1, decide_eq_true hi, ah, aq, a1, a2, b1, b2, r2]
  cases r with
  |true=>
   simp -implicitDefEqProofs only [Bool.not_true, ah, aq, eT (show i+1≤9223372036854775807 by omega)]
   exact dw.next (k-1) (by omega) ⟨i+1,by omega,y0,y1,rfl,rfl,snoc_el he (r1.1 rfl)⟩
  |false=>
   simp -implicitDefEqProofs only [Bool.not_false]
   exact dw.ret ⟨rfl,.inl ⟨rfl,rfl,fun h=>by
    subst h
    exact absurd (r1.2 rfl) (by decide)⟩⟩
 ·simp -implicitDefEqProofs only [y5,y0,hl,dI,ah,aq,decide_eq_false hi]
  exact dw.out 0 ⟨rfl,.inr ⟨rfl,fun j hj=>he j (by omega)⟩⟩
theorem r44 {h:ak} {v w:Value} {n m:Nat} {cs ds:List Value} (hG:4≤h.n0) (x:dn h recK v n cs) (y':dn h recK w m ds) (hn:n≤1000000) : ∃ r:Bool,CW 44 [v,w] h=some (.bool r,h)∧(r=true↔cs=ds):=by
 have lx:=x.cells
 have ly:=y'.cells
 have hz:(recK:List Kd).length=39:=rfl
 rw [hz] at lx ly
 by_cases e:n=m
 ·subst e
  have key : ∃ r:Bool,t44 CW v w h=some (.bool r,h)∧(r=true↔cs=ds):=by
   unfold t44
   simp -implicitDefEqProofs only [ah, x.len, y'.len, aq, neq3]
   refine cy (Q:=fun o:Out => ∃ r:Bool,o=some (Value.bool r,h)∧(r=true↔cs=ds)) (cn (t44l44_11010_eq CW) (round44 x y' hn) n (by have:rounds=18446744073709551616:=rfl;omega)
    ⟨0,Nat.zero_add _,rfl,rfl,rfl,rfl,fun j hj=>absurd hj (Nat.not_lt_zero j)⟩) ?_
   rintro ex z g ⟨rfl,⟨rfl,z4,hne⟩|⟨rfl,he⟩⟩
   ·rw [eL,fv (t:=4) results44 (by decide),z4]
    exact ⟨false,rfl,fun h=>(by cases h),fun h=>absurd h hne⟩
   ·simp -implicitDefEqProofs only [bG,b44_exit,t44k44_4_eq]
    unfold t44k44_4
    simp -implicitDefEqProofs only [ah]
    exact ⟨true,rfl,fun _=>els_eq (by decide) lx ly he,fun _=>rfl⟩
  obtain ⟨r,k1,k2⟩:=key
  exact ⟨r,aG is44 hG rfl ((t44_eq _ _ _ _).trans k1),k2⟩
 ·refine ⟨false,aG is44 hG rfl ((t44_eq _ _ _ _).trans ?_),fun h=>(by cases h),fun h => ?_⟩
  ·unfold t44
   simp -implicitDefEqProofs only [ah,x.len,y'.len,aq,neq3,decide_eq_false e,Bool.not_false]
  ·rw [h,ly] at lx
   exact absurd (Nat.eq_of_mul_eq_mul_right (by decide) lx).symm e
end Go.Proofs.YtjghlcdidopcpaaGreatDoor

namespace Go.Proofs.YtjghlcdidopcpaaGreatDoor
open Go Go.Abs
theorem c9 (h:ak) (cs:List Value) (hc:aS cs=true):box (.agg cs.toArray) h=some (ptr h.next 0,h.alloc cs):=by
 have e:(Value.agg cs.toArray).cells=cs.toArray:=rfl
 unfold box
 rw [e,if_pos (by simpa using hc)]
 simp [Abs.newRow]
theorem mid {k A B C:List Value} {p n:Nat} (h:k=A++(B++C)) (hA:A.length=p) (hB:B.length=n):(k.drop p).take n=B:=by
 subst h hA hB
 rw [List.drop_left,List.take_left]
theorem fw {h:ak} {b p n:Nat} {k A B C:List Value} (g:h.get b=some k) (e:k=A++(B++C)) (hA:A.length=p) (hB:B.length=n) (nh:Abs.bA B=true):bP n (ptr b p) h=some (.agg B.toArray,h):=by
 have hm:=mid e hA hB
 have hl:p+n≤k.length:=by rw [e,List.length_append,List.length_append];omega
 have:=ldN_at g (o:=p) (n:=n) hl (by rw [hm];exact nh)
 rw [hm] at this
 exact this
@[ext] structure bD where
  kind:Int
  from_:Int
  eu:Int
  seq:Int
  origin:Int
  target:Int
  count:Int
  root:List Value
  b7:Bool
  obj:List Value
  gk:Int
  gn:Int
  gt:Int
  gs:Int
  cp:List Value
  cg:Int
  code:Int
  table:List Value
  low:List Value
  high:List Value
  bC:List Value
  pieces:List Value
  data:List Value
structure cP where
 a:Value
 b:Value
 c:Value
 d:Value
 e:Value
 f:Value
def bD.dv (M:bD) (s:cP):dA := [.int .i64 M.gk,.int .i64 M.gn,.int .i64 M.gt,.int .i64 M.gs]++(M.cp ++ [s.e])
def bD.front (M:bD) (s:cP):dA := [.int .u8 M.kind,.int .i64 M.from_,.int .i64 M.eu,.int .u64 M.seq,.int .i64 M.origin,.int .i64 M.target,s.a,s.b,s.c,.int .i64 M.count]
def bD.cells (M:bD) (s:cP):dA:=M.front s++(M.root++([s.d,.bool M.b7]++(M.obj++(M.dv s ++ [.int .i64 M.cg,s.f,.int .i64 M.code]))))
structure bD.Ok (M:bD):Prop where
 root:Typed fF M.root
 obj:Typed fF M.obj
 cp:Typed fF M.cp
structure N6 where
 a:Nat
 b:Nat
 c:Nat
 d:Nat
 e:Nat
 f:Nat
structure SlV (h:ak) (s:cP) (n:N6) (M:bD):Prop where
 a:dn h memK s.a n.a M.table
 b:dn h [.u8] s.b n.b M.low
 c:dn h [.u8] s.c n.c M.high
 d:dn h recK s.d n.d M.bC
 e:dn h fF s.e n.e M.pieces
 f:dn h [.u8] s.f n.f M.data
structure N6.Small (n:N6):Prop where
 a:n.a≤1000000
 b:n.b≤1000000
 c:n.c≤1000000
 d:n.d≤1000000
 e:n.e≤1000000
 f:n.f≤1000000
def cP.off (s:cP) (B:Nat→Prop):Prop := ∀ v,v=s.a∨v=s.b∨v=s.c∨v=s.d∨v=s.e∨v=s.f → ∀ b,slB v=some b → ¬B b
theorem SlV.dV {h h':ak} {s:cP} {n:N6} {M:bD} (x:SlV h s n M) {B:Nat→Prop} (k:Kept h h' B) (hB:s.off B):SlV h' s n M:=
 ⟨x.a.dV k (hB _ (.inl rfl)),x.b.dV k (hB _ (.inr (.inl rfl))),x.c.dV k (hB _ (.inr (.inr (.inl rfl)))),x.d.dV k (hB _ (.inr (.inr (.inr (.inl rfl))))),x.e.dV k (hB _ (.inr (.inr (.inr (.inr (.inl rfl)))))),x.f.dV k (hB _ (.inr (.inr (.inr (.inr (.inr rfl))))))⟩
theorem SlV.bm {h h':ak} {s:cP} {n:N6} {M:bD} (x:SlV h s n M) (k:Old h h'):SlV h' s n M:=x.dV k (fun _ _ _ _ h=>h)
theorem bJ {h:ak} {ks:List Kd} {v:Value} {n:Nat} {cs:List Value} (x:dn h ks v n cs):isHole v=false∧v.oneCell'=true∧v.cells = #[v]:=by
 obtain ⟨a,c,rfl,_⟩:=x
 exact ⟨rfl,rfl,rfl⟩
theorem eC {a b:List Value} (h1:Abs.bA a=true) (h2:Abs.bA b=true):Abs.bA (a++b)=true:=by
 unfold Abs.bA at *
 rw [List.all_append,h1,h2];rfl
theorem eE {a b:List Value} (h1:aS a=true) (h2:aS b=true):aS (a++b)=true:=by
 unfold aS at *
 rw [List.all_append,h1,h2];rfl
theorem noH_one {v:Value} (h:isHole v=false):Abs.bA [v]=true:=by
 simp [Abs.bA,h]
section
variable {h:ak} {s:cP} {n:N6} {M:bD} (x:SlV h s n M) (ok:M.Ok)
include x ok
theorem man_ok:Abs.bA (M.dv s)=true∧aS (M.dv s)=true∧(M.dv s).length=37:=by
 have hm:=ok.cp.all
 have hl:M.cp.length=32:=ok.cp.1
 obtain ⟨e1,e2,_⟩:=bJ x.e
 refine ⟨eC rfl (eC hm.1 (noH_one e1)),eE rfl (eE hm.2.1 (by simp [aS,e2])),?_⟩
 unfold bD.dv
 simp [hl]
theorem dE:Abs.bA (M.cells s)=true∧aS (M.cells s)=true∧(M.cells s).length=116:=by
 have hr:=ok.root.all
 have ho:=ok.obj.all
 have hrl:M.root.length=32:=ok.root.1
 have hol:M.obj.length=32:=ok.obj.1
 obtain ⟨m1,m2,m3⟩:=man_ok x ok
 obtain ⟨a1,a2,_⟩:=bJ x.a
 obtain ⟨b1,b2,_⟩:=bJ x.b
 obtain ⟨c1,c2,_⟩:=bJ x.c
 obtain ⟨d1,d2,_⟩:=bJ x.d
 obtain ⟨f1,f2,_⟩:=bJ x.f
 refine ⟨eC ?_ (eC hr.1 (eC ?_ (eC ho.1 (eC m1 ?_)))),eE ?_ (eE hr.2.1 (eE ?_ (eE ho.2.1 (eE m2 ?_)))),?_⟩
 ·unfold bD.front Abs.bA;simp only [List.all_cons,List.all_nil,a1,b1,c1];rfl
 ·unfold Abs.bA;simp only [List.all_cons,List.all_nil,d1];rfl
 ·unfold Abs.bA;simp only [List.all_cons,List.all_nil,f1];rfl
 ·unfold bD.front;simp [aS,a2,b2,c2];exact ⟨rfl,rfl,rfl,rfl,rfl,rfl,rfl⟩
 ·simp [aS,d2];rfl
 ·simp [aS,f2];exact ⟨rfl,rfl⟩
 ·unfold bD.cells bD.front
  simp [hrl,hol,m3]
end
structure MsgLd (h:ak) (b:Nat) (s:cP) (M:bD):Prop where
 l0:aK (ptr b 0) h=some (.int .u8 M.kind,h)
 l1:aK (ptr b 1) h=some (.int .i64 M.from_,h)
 l2:aK (ptr b 2) h=some (.int .i64 M.eu,h)
 l3:aK (ptr b 3) h=some (.int .u64 M.seq,h)
 l4:aK (ptr b 4) h=some (.int .i64 M.origin,h)
 l5:aK (ptr b 5) h=some (.int .i64 M.target,h)
 l6:aK (ptr b 6) h=some (s.a,h)
 l7:aK (ptr b 7) h=some (s.b,h)
 l8:aK (ptr b 8) h=some (s.c,h)
 l9:aK (ptr b 9) h=some (.int .i64 M.count,h)
 ch:bP 32 (ptr b 10) h=some (.agg M.root.toArray,h)
 bF:aK (ptr b 42) h=some (s.d,h)
 bU:aK (ptr b 43) h=some (.bool M.b7,h)
 b8:bP 32 (ptr b 44) h=some (.agg M.obj.toArray,h)
 bR:bP 37 (ptr b 76) h=some (.agg (M.dv s).toArray,h)
 l112:aK (ptr b 112) h=some (s.e,h)
 aT:aK (ptr b 113) h=some (.int .i64 M.cg,h)
 aR:aK (ptr b 114) h=some (s.f,h)
 aU:aK (ptr b 115) h=some (.int .i64 M.code,h)
 all:bP 116 (ptr b 0) h=some (.agg (M.cells s).toArray,h)
theorem msg_ld {h h0:ak} {b:Nat} {s:cP} {n:N6} {M:bD} (x:SlV h0 s n M) (ok:M.Ok) (g:h.get b=some (M.cells s)):MsgLd h b s M:=by
 have hr:=ok.root.all
 have ho:=ok.obj.all
 have hrl:M.root.length=32:=ok.root.1
 have hol:M.obj.length=32:=ok.obj.1
 have hml:M.cp.length=32:=ok.cp.1
 obtain ⟨m1,_,m3⟩:=man_ok x ok
 obtain ⟨c1,_,c3⟩:=dE x ok
 have hf:(M.front s).length=10:=rfl
 have key : ∀ i v,(M.front s)[i]? = some v→(M.cells s)[i]? = some v:=fun i v e=>by
  have hi:=(List.getElem?_eq_some_iff.1 e).1
  unfold bD.cells
  rw [List.getElem?_append_left hi]
  exact e
 have at42 : ∀ i v,[s.d,.bool M.b7][i]? = some v→(M.cells s)[42+i]? = some v:=fun i v e=>by
  have hi:i<2:=(List.getElem?_eq_some_iff.1 e).1
  unfold bD.cells
  rw [List.getElem?_append_right (by omega),hf,List.getElem?_append_right (by omega),hrl,show 42+i-10-32=i by omega,List.getElem?_append_left hi]
  exact e
 have at113 : ∀ i v,[Value.int .i64 M.cg,s.f,.int .i64 M.code][i]? = some v→(M.cells s)[113+i]? = some v:=fun i v e=>by
  unfold bD.cells
  have h2:([s.d,Value.bool M.b7]:List Value).length=2:=rfl
  rw [List.getElem?_append_right (by omega),hf,List.getElem?_append_right (by omega),hrl,List.getElem?_append_right (by omega),h2,List.getElem?_append_right (by omega),hol,List.getElem?_append_right (by omega),m3,show 113+i-10-32-2-32-37=i by omega]
  exact e
 have at112:(M.cells s)[112]? = some s.e:=by
  unfold bD.cells
  have h2:([s.d,Value.bool M.b7]:List Value).length=2:=rfl
  rw [List.getElem?_append_right (by omega),hf,List.getElem?_append_right (by omega),hrl,List.getElem?_append_right (by omega),h2,List.getElem?_append_right (by omega),hol,List.getElem?_append_left (by omega)]
  unfold bD.dv
  rw [List.getElem?_append_right (by simp),List.getElem?_append_right (by simp [hml])]
  simp [hml]
 exact ⟨bf g (key 0 _ rfl) rfl,bf g (key 1 _ rfl) rfl,bf g (key 2 _ rfl) rfl,bf g (key 3 _ rfl) rfl,bf g (key 4 _ rfl) rfl,bf g (key 5 _ rfl) rfl,bf g (key 6 _ rfl) (bJ x.a).1,bf g (key 7 _ rfl) (bJ x.b).1,bf g (key 8 _ rfl) (bJ x.c).1,bf g (key 9 _ rfl) rfl,
  fw g (A:=M.front s) (B:=M.root) rfl hf hrl hr.1,bf g (at42 0 _ rfl) (bJ x.d).1,bf g (at42 1 _ rfl) rfl,
  fw g (A:=M.front s++(M.root ++ [s.d,.bool M.b7])) (B:=M.obj) (C:=M.dv s ++ [.int .i64 M.cg,s.f,.int .i64 M.code]) (by unfold bD.cells;simp only [List.append_assoc]) (by simp [hf,hrl]) hol ho.1,
  fw g (A:=M.front s++(M.root++([s.d,.bool M.b7]++M.obj))) (B:=M.dv s) (C := [.int .i64 M.cg,s.f,.int .i64 M.code]) (by unfold bD.cells;simp only [List.append_assoc]) (by simp [hf,hrl,hol]) m3 m1,
  bf g at112 (bJ x.e).1,bf g (at113 0 _ rfl) rfl,bf g (at113 1 _ rfl) (bJ x.f).1,bf g (at113 2 _ rfl) rfl,
  fw g (A := []) (B:=M.cells s) (C := []) (by simp) rfl c3 c1⟩
structure ManLd (h:ak) (b:Nat) (s:cP) (M:bD):Prop where
 l0:aK (ptr b 0) h=some (.int .i64 M.gk,h)
 l1:aK (ptr b 1) h=some (.int .i64 M.gn,h)
 l2:aK (ptr b 2) h=some (.int .i64 M.gt,h)
 l3:aK (ptr b 3) h=some (.int .i64 M.gs,h)
 l4:bP 32 (ptr b 4) h=some (.agg M.cp.toArray,h)
 dP:aK (ptr b 36) h=some (s.e,h)
theorem fB {h h0:ak} {b:Nat} {s:cP} {n:N6} {M:bD} (x:SlV h0 s n M) (ok:M.Ok) (g:h.get b=some (M.dv s)):ManLd h b s M:=by
 have hm:=ok.cp.all
 have hml:M.cp.length=32:=ok.cp.1
 have at36:(M.dv s)[36]? = some s.e:=by
  unfold bD.dv
  rw [List.getElem?_append_right (by simp),List.getElem?_append_right (by simp [hml])]
  simp [hml]
 exact ⟨bf g rfl rfl,bf g rfl rfl,bf g rfl rfl,bf g rfl rfl,fw g (A := [.int .i64 M.gk,.int .i64 M.gn,.int .i64 M.gt,.int .i64 M.gs]) (B:=M.cp) rfl rfl hml hm.1,bf g at36 (bJ x.e).1⟩
end Go.Proofs.YtjghlcdidopcpaaGreatDoor

