/-
  A part of the proof, spaces and names shortened by a program (a claim may hold 1,500,000 bytes).
  Conditions: as each theorem states.
-/
import Derived.Test.YtjghlcdidopcpaaGreatDoorG8
import Derived.Test.YtjghlcdidopcpaaGreatDoorProg
import Derived.KernelRfl
namespace Go.Abs
structure Closed (v:Value):Prop where
 rel : ∀ μ v',aP μ v v'→v'=v
 self : ∀ μ,aP μ v v
 bd : ∀ n,cQ n v=true
theorem Closed.flat {v:Value} (h:flat v=true):Closed v:=⟨fun _ _ r=>r.bQ h,fun _ => .flat h,fun _=>bdV_flat h⟩
theorem Closed.list {xs:Array Value} (h : ∀ x∈xs.toList,Closed x) {μ:Mu} {ys:Array Value} (hs:xs.size=ys.size) (hr : ∀ (i:Nat) (x y:Value),xs[i]? = some x→ys[i]? = some y→aP μ x y):ys=xs:=by
 refine Array.ext hs.symm fun i h1 h2 => ?_
 exact (h xs[i] (by simp)).rel μ _ (hr i _ _ (Array.getElem?_eq_getElem h2) (Array.getElem?_eq_getElem h1))
theorem Closed.agg {xs:Array Value} (h : ∀ x∈xs.toList,Closed x):Closed (.agg xs):=by
 refine ⟨fun μ v' r => ?_,fun μ => .agg rfl fun i x y hx hy => ?_,fun n => ?_⟩
 ·cases r with
  |flat hf=>rfl
  |agg hs hr=>rw [Closed.list h hs hr]
 ·rw [hx] at hy
  cases hy
  exact (h x (by rw [Array.mem_toList_iff];exact Array.mem_of_getElem? hx)).self μ
 ·show dz n xs.toList=true
  rw [dF]
  exact fun x hx=>(h x hx).bd n
theorem Closed.tuple {xs:Array Value} (h : ∀ x∈xs.toList,Closed x):Closed (.tuple xs):=by
 refine ⟨fun μ v' r => ?_,fun μ => .tuple rfl fun i x y hx hy => ?_,fun n => ?_⟩
 ·cases r with
  |flat hf=>rfl
  |tuple hs hr=>rw [Closed.list h hs hr]
 ·rw [hx] at hy
  cases hy
  exact (h x (by rw [Array.mem_toList_iff];exact Array.mem_of_getElem? hx)).self μ
 ·show dz n xs.toList=true
  rw [dF]
  exact fun x hx=>(h x hx).bd n
theorem cU.closed_deep {P:Program} {C:au} (hC:bN P C) {f:FuncId} (S:List Value→Option Value)
  (hS : ∀ args v,S args=some v→flatAll args=true∧Closed v ∧ ∃ h1,C f args (bare P)=some (v,h1)) (hne : ∃ args v,S args=some v) :
  cU P f fun args h=>(S args).map fun v=>(v,h):=by
 have key : ∀ (args:List Value) (h:aj) (v:Value) (h':aj),((S args).map fun v=>(v,h))=some (v,h')→S args=some v∧h'=h:=by
  intro args h v h' e
  simp only [Option.map_eq_some_iff,Prod.mk.injEq] at e
  obtain ⟨w,h1,rfl,rfl⟩:=e
  exact ⟨h1,rfl⟩
 refine ⟨?_,?_,?_,?_⟩
 ·obtain ⟨args,v,e⟩:=hne
  obtain ⟨_,_,h1,hr⟩:=hS args v e
  exact hC.fn _ _ _ _ _ hr
 ·intro args h v h' e
  obtain ⟨_,rfl⟩:=key _ _ _ _ e
  exact cy.refl _
 ·intro args h v h' e _ hb
  obtain ⟨e1,rfl⟩:=key _ _ _ _ e
  exact ⟨(hS _ _ e1).2.1.bd _,hb⟩
 ·intro args h v h' e hba hbh hg μ w args' Sm hfr r
  obtain ⟨e1,rfl⟩:=key _ _ _ _ e
  obtain ⟨ha,hv,h1,hr⟩:=hS _ _ e1
  have hargs:=r.bQ ha
  subst hargs
  have S0:cS (μ.cut P.globals.size) (bare P) w:=by
   refine ⟨?_,?_,?_,Nat.le_trans hg Sm.size,?_⟩
   ·intro b cs _ hc;cases hc
   ·intro b k _ hk;rw [bare_get] at hk;cases hk
   ·intro b b' k k' L L' _ _ _ hk;rw [bare_get] at hk;cases hk
   ·intro b hb
    obtain ⟨L,h2,h3⟩:=Sm.low b (Nat.lt_of_lt_of_le hb hg)
    exact ⟨L,Mu.fB h2 hb,h3⟩
  have hno : ∀ B,¬Own (μ.cut P.globals.size) (bare P) B:=by
   rintro B ⟨b,k,L,_,hk,_⟩
   rw [bare_get] at hk;cases hk
  refine (hC.run _ _ _ _ _ hr (gi ha) (fun b k hk=>by rw [bare_get] at hk;cases hk) (Nat.le_refl _) (μ.cut P.globals.size) w _ S0
   (fun b hb _=>by
    have : ¬b<P.globals.size:=Nat.not_lt.2 hb
    simp [Mu.cut,this]) (bo.of_flat ha)).mono ?_
  rintro e w' ⟨μ1,v1,rfl,S1,St,hv1⟩
  have same : ∀ (B:Nat) (x:Obj),w.heap[B]? = some x→w'.heap[B]? = some x:=by
   intro B x hx
   rw [St.same B (Array.getElem?_eq_some_iff.1 hx).1 (hno B)];exact hx
  refine ⟨μ,v1,rfl,⟨?_,?_,Sm.inj,Nat.le_trans Sm.size St.size,Sm.low⟩,⟨fun _ _=>rfl,rfl,rfl,Nat.le_refl _,St.os,St.tape,St.output,St.size,fun B hB _=>St.same B hB (hno B),fun B hB => .inl hB⟩,?_⟩
  ·intro b cs hb hc
   obtain ⟨L,arr,T,fr,h2,h3,h4,h5,h6⟩:=Sm.bA b cs hb hc
   exact ⟨L,arr,T,fr,h2,h3,h4,same _ _ h5,h6⟩
  ·intro b k hb hk
   obtain ⟨L,arr,T,fr,h2,h3,h4,h5⟩:=Sm.new b k hb hk
   exact ⟨L,arr,T,fr,h2,h3,same _ _ h4,h5⟩
  ·rw [hv.rel _ _ hv1];exact hv.self _
end Go.Abs
namespace Go.Proofs.YtjghlcdidopcpaaGreatDoor
open Go Go.Abs
theorem mixed:Tryz.prog.follows .mixedOrders=true:=by kernel_rfl
noncomputable def okF (f:FuncId):Bool:=match Tryz.prog.funcs[f]? with|some fn=>fnOk Tryz.prog fn|none=>false
theorem okF_ok : ∀ f fn,okF f=true→Tryz.prog.funcs[f]? = some fn→fnOk Tryz.prog fn=true:=by
 intro f fn h1 h2
 unfold okF at h1
 rw [h2] at h1;exact h1
noncomputable def isTrue (o:Out):Bool:=match o with|some (.bool true,_)=>true|_=>false
theorem isTrue_eq {o:Out} (h:isTrue o=true) : ∃ h1,o=some (.bool true,h1):=by
 unfold isTrue at h
 split at h
 ·exact ⟨_,rfl⟩
 ·cases h
noncomputable def run0:au:=callF Tryz.prog okF (callL []) (fun _=>false) 100000 40
theorem run0_sound:bN Tryz.prog run0:=callF_sound (callL_sound [] (by simp)) (by decide) mixed okF_ok 40
theorem known_runs:isTrue (run0 12 [] (bare Tryz.prog))=true:=by kernel_rfl
def s12:List Value→aj→Out:=fun args h=>match args with | []=>some (.bool true,h)|_=>none
theorem c12:cU Tryz.prog 12 s12:=cU.closed run0_sound rfl (isTrue_eq known_runs)
def fmN:Nat→List UInt8×Nat×Nat×Nat×Nat
 | 1=>([112,105,110,103],95,96,97,98)
 | 2=>([97,99,107],95,96,97,98)
 | 3=>([112,105,110,103,114,101,113],95,99,100,101)
 | 4=>([115,117,109],111,112,113,114)
 | 5=>([105,116,101,109,115],111,115,116,117)
 | 6=>([99,108,97,105,109],102,103,104,105)
 | 7=>([102,101,116,99,104],102,103,104,105)
 | 8=>([111,102,102,101,114],106,107,108,109)
 | 9=>([108,97,99,107],102,103,104,105)
 | 10=>([105,110,115,116,97,108,108],106,107,108,109)
 | 11=>([115,116,111,114,101,100],118,119,120,121)
 | 12=>([97,115,107],102,103,104,105)
 | 13=>([107,101,101,112],102,103,104,105)
 |_=>([],0,0,0,0)
def fnV (n:Nat):Value:=if n=0 then .nilFunc else .func (.func n) #[] #[]
def kindOk (k:Nat):Bool:=Nat.ble 1 k&&Nat.ble k 13
theorem fnV_flat (n:Nat):flat (fnV n)=true:=by
 unfold fnV
 split<;>rfl
def fmC (k:Nat):List Value := [.string ⟨(fmN k).1.toArray⟩,fnV (fmN k).2.1,fnV (fmN k).2.2.1,fnV (fmN k).2.2.2.1,fnV (fmN k).2.2.2.2]
def formsC:List Value:=(List.range 14).flatMap fmC
noncomputable def forms77:Bool:=match run0 77 [] (bare Tryz.prog) with
 |some (v,_)=>fb v (.agg formsC.toArray)
 |none=>false
theorem forms_run:forms77=true:=by kernel_rfl
theorem fmC_flat (k:Nat) : ∀ v∈fmC k,flat v=true:=by
 intro v hv
 simp only [fmC,List.mem_cons,List.not_mem_nil,or_false] at hv
 rcases hv with rfl|rfl|rfl|rfl|rfl
 ·rfl
 all_goals exact fnV_flat _
def S77:List Value→Option Value
 | []=>some (.agg formsC.toArray)
 |_=>none
def s77:List Value→aj→Out:=fun args h=>(S77 args).map fun v=>(v,h)
theorem c77:cU Tryz.prog 77 s77:=cU.closed_deep run0_sound S77 (fun args v e=>by
 unfold S77 at e
 split at e
 ·cases e
  refine ⟨rfl,.agg fun x hx => ?_,?_⟩
  ·obtain ⟨k,_,hk⟩:=List.mem_flatMap.1 (show x∈formsC from hx)
   exact .flat (fmC_flat k x hk)
  ·have:=forms_run
   unfold forms77 at this
   split at this
   ·rename_i v h1 hr
    rw [veq_eq this] at hr
    exact ⟨h1,hr⟩
   ·cases this
 ·cases e) ⟨[],_,rfl⟩
end Go.Proofs.YtjghlcdidopcpaaGreatDoor

namespace Go.Proofs.YtjghlcdidopcpaaGreatDoor
open Go Go.Abs
noncomputable abbrev XL:List (FuncId×(List Value→aj→Out)) := [(12,s12),(77,s77)]
noncomputable abbrev XX:au:=callL XL
theorem XX_sound:bN Tryz.prog XX:=callL_sound _ (by
 intro p hp
 simp only [List.mem_cons,List.not_mem_nil,or_false] at hp
 rcases hp with rfl|rfl
 ·exact c12
 ·exact c77)
noncomputable def CW:au:=CC Tryz.prog XX
theorem globals4:Tryz.prog.globals.size=4:=by kernel_rfl
theorem aF {f:FuncId} {fn:Func} (i:bO Tryz.prog f fn) {args:List Value} {h:aj} {r:Value×aj} (hg:4≤h.n0) (hX:XX f args h=none) (e:bf Tryz.prog CW fn args h=some r):CW f args h=some r:=
 CC_body i (by rw [globals4];exact hg) hX e
theorem r77 (h:aj):CW 77 [] h=some (.agg formsC.toArray,h):=CC_known (show XX 77 [] h=some (.agg formsC.toArray,h) from rfl)
theorem r12 (h:aj):CW 12 [] h=some (.bool true,h):=CC_known (show XX 12 [] h=some (.bool true,h) from rfl)
abbrev Old (h h':aj):Prop:=Kept h h' (fun _=>False)
theorem Old.get {h h':aj} (o:Old h h') {b:Nat} {k:dB} (e:h.get b=some k):h'.get b=some k:=(Kept.get o b (h.bc e) (fun h=>h)).trans e
theorem aU {γ:Type} {o o':Out} {f:Value→aj→Option γ} (h:o=o'):ae o f=ae o' f:=by rw [h]
inductive Kd where
 |u8
 |i (k:IntKind)
 |b
def Kd.has:Kd→Value→Prop
 | .u8,v => ∃ n:Nat,v = .int .u8 n∧n<256
 | .i k,v => ∃ n:Int,v = .int k n∧(Lit.int k n).wf=true
 | .b,v => ∃ t:Bool,v = .bool t
theorem Kd.has.cell {k:Kd} {v:Value} (h:k.has v):isHole v=false∧v.oneCell'=true∧flat v=true∧v.cells = #[v]:=by
 cases k with
 |u8=>obtain ⟨n,rfl,_⟩:=h;exact ⟨rfl,rfl,rfl,rfl⟩
 |i k=>obtain ⟨n,rfl,_⟩:=h;exact ⟨rfl,rfl,rfl,rfl⟩
 |b=>obtain ⟨t,rfl⟩:=h;exact ⟨rfl,rfl,rfl,rfl⟩
def Typed (ks:List Kd) (cs:List Value):Prop:=cs.length=ks.length ∧ ∀ (j:Nat) (k:Kd),ks[j]? = some k → ∃ v,cs[j]? = some v∧k.has v
def dV (ks:List Kd) (n:Nat) (cs:List Value):Prop:=cs.length=n*ks.length ∧ ∀ i,i<n→Typed ks ((cs.drop (i*ks.length)).take ks.length)
theorem Typed.cell {ks:List Kd} {cs:List Value} (h:Typed ks cs) {j:Nat} {v:Value} (hv:cs[j]? = some v):isHole v=false∧v.oneCell'=true∧flat v=true∧v.cells = #[v]:=by
 have hj:=(List.getElem?_eq_some_iff.1 hv).1
 have hj':j<ks.length:=by rw [←h.1];exact hj
 obtain ⟨w,hw,hk⟩:=h.2 j _ (List.getElem?_eq_getElem hj')
 rw [hv] at hw
 cases hw
 exact hk.cell
theorem Typed.all {ks:List Kd} {cs:List Value} (h:Typed ks cs):Abs.bH cs=true∧aQ cs=true∧flatAll cs=true:=by
 have key : ∀ v∈cs,isHole v=false∧v.oneCell'=true∧flat v=true:=fun v hv=>by
  obtain ⟨j,hj⟩:=List.mem_iff_getElem?.1 hv
  obtain ⟨a,b,c,_⟩:=h.cell hj
  exact ⟨a,b,c⟩
 refine ⟨?_,?_,?_⟩
 ·unfold Abs.bH
  rw [List.all_eq_true]
  exact fun v hv=>by rw [(key v hv).1];rfl
 ·unfold aQ
  rw [List.all_eq_true]
  exact fun v hv=>(key v hv).2.1
 ·unfold flatAll
  rw [List.all_eq_true]
  exact fun v hv=>(key v hv).2.2
theorem dV.all {ks:List Kd} {n:Nat} {cs:List Value} (h:dV ks n cs):Abs.bH cs=true∧aQ cs=true:=by
 have key : ∀ v∈cs,isHole v=false∧v.oneCell'=true:=fun v hv=>by
  obtain ⟨j,hj⟩:=List.mem_iff_getElem?.1 hv
  have hj2:=(List.getElem?_eq_some_iff.1 hj).1
  rw [h.1] at hj2
  have hpos:0<ks.length:=Nat.pos_of_ne_zero (fun e=>by rw [e] at hj2;omega)
  have hi:j/ks.length<n:=(Nat.div_lt_iff_lt_mul hpos).2 hj2
  have h3:=(h.2 _ hi).cell (j:=j%ks.length) (v:=v) (by
   have hm:=Nat.mod_lt j hpos
   rw [List.getElem?_take,if_pos hm,List.getElem?_drop]
   have:=Nat.div_add_mod j ks.length
   rw [Nat.mul_comm] at this
   rw [this];exact hj)
  exact ⟨h3.1,h3.2.1⟩
 refine ⟨?_,?_⟩
 ·unfold Abs.bH
  rw [List.all_eq_true]
  exact fun v hv=>by rw [(key v hv).1];rfl
 ·unfold aQ
  rw [List.all_eq_true]
  exact fun v hv=>(key v hv).2
def EqT (t:TypeId) (ks:List Kd):Prop := ∀ xs ys:List Value,Typed ks xs→Typed ks ys → ∃ r:Bool,(r=true↔xs=ys)∧bin Tryz.prog .eql t (.agg xs.toArray) (.agg ys.toArray)=some (.bool r)∧bin Tryz.prog .neq t (.agg xs.toArray) (.agg ys.toArray)=some (.bool !r)
def dQ:List Kd:=List.replicate 32 .u8
def memK:List Kd := [.i .u64,.u8]
def recK:List Kd := .u8::(List.replicate 32 .u8 ++ [.i .i64,.i .u64,.i .u64,.b,.i .i64,.i .i64])
theorem size1:cD Tryz.prog 5=some 1:=by kernel_rfl
theorem size32:cD Tryz.prog 28=some 32:=by kernel_rfl
theorem ground_agg {xs:List Value} (h:flatAll xs=true):ground (.agg xs.toArray)=true:=by
 show flatAll xs.toArray.toList=true
 exact h
theorem dig_get {xs:List Value} (h:Typed dQ xs) {i:Nat} (hi:i<32) : ∃ n:Nat,xs[i]? = some (.int .u8 n)∧n<256:=by
 obtain ⟨v,h1,n,rfl,h2⟩:=h.2 i .u8 (by unfold dQ;rw [List.getElem?_replicate,if_pos hi])
 exact ⟨n,h1,h2⟩
theorem dig_run {d:Nat} {xs ys:List Value} (hx:Typed dQ xs) (hy:Typed dQ ys) : ∃ r:Bool,(r=true↔xs=ys)∧bT Tryz.prog (Op.equalIn (d+2) 28 (.agg xs.toArray) (.agg ys.toArray))=some r:=by
 obtain ⟨r,h1,h2⟩:=pr_eq_arr (P:=Tryz.prog) (d:=d) (m:=32) (t:=28) (e:=5) (k := .u8) (j := .u8) (xs:=xs.toArray) (ys:=ys.toArray) Tryz.underlying28 size1 Tryz.underlying5 (fun i hi=>by
  obtain ⟨a,ha,_⟩:=dig_get hx hi
  obtain ⟨b,hb,_⟩:=dig_get hy hi
  exact ⟨a,b,by simpa using ha,by simpa using hb⟩)
 refine ⟨r,h1.trans ⟨fun hh => ?_,fun hh i hi=>by rw [hh]⟩,h2⟩
 have lx:xs.length=32:=hx.1
 have ly:ys.length=32:=hy.1
 refine List.ext_getElem? fun i => ?_
 by_cases hi:i<32
 ·simpa using hh i hi
 ·rw [List.getElem?_eq_none (by omega),List.getElem?_eq_none (by omega)]
theorem eq28:EqT 28 dQ:=by
 intro xs ys hx hy
 obtain ⟨r,h1,h2⟩:=dig_run (d:=9998) hx hy
 exact ⟨r,h1,bin_agg (by kernel_rfl) (ground_agg hx.all.2.2) (ground_agg hy.all.2.2) h2⟩
theorem eq58:EqT 58 memK:=by
 intro xs ys hx hy
 have two : ∀ {l:List Value},Typed memK l → ∃ (a:Int) (b:Nat),l = [.int .u64 a,.int .u8 b]:=by
  intro l h
  have hl:l.length=2:=h.1
  match l,hl with
  | [v,w],_=>
    obtain ⟨_,h1,a,rfl,_⟩:=h.2 0 (.i .u64) rfl
    obtain ⟨_,h2,b,rfl,_⟩:=h.2 1 .u8 rfl
    cases h1;cases h2
    exact ⟨a,b,rfl⟩
 obtain ⟨a,b,rfl⟩:=two hx
 obtain ⟨c,d,rfl⟩:=two hy
 have hr:bT Tryz.prog (Op.equalIn 10000 58 (.agg [Value.int .u64 a,.int .u8 b].toArray) (.agg [Value.int .u64 c,.int .u8 d].toArray))=some (decide (a=c)&&decide ((b:Int)=d)):=by
  rw [pr_eq_struct (P:=Tryz.prog) (d:=9999) Tryz.underlying58 (by kernel_rfl)]
  simp only [eqF]
  rw [if_pos (by decide),if_pos (by decide)]
  rw [b9 (v := .int .u64 a) Tryz.underlying25 rfl,b9 (v := .int .u64 c) Tryz.underlying25 rfl,b9 (v := .int .u8 b) Tryz.underlying56 rfl,b9 (v := .int .u8 d) Tryz.underlying56 rfl]
  simp only [Option.bind_some,pr_eq_int (d:=9998) Tryz.underlying25,pr_eq_int (d:=9998) Tryz.underlying56]
  by_cases e1:a=c<;>by_cases e2:(b:Int)=d<;>simp [e1,e2]
 refine ⟨_,?_,bin_agg (by kernel_rfl) rfl rfl hr⟩
 simp
end Go.Proofs.YtjghlcdidopcpaaGreatDoor

namespace Go.Proofs.YtjghlcdidopcpaaGreatDoor
open Go Go.Abs
theorem rec_form {l:List Value} (h:Typed recK l) : ∃ (a:Nat) (o:List Value) (b c d:Int) (e:Bool) (f g:Int),l = .int .u8 a::(o ++ [.int .i64 b,.int .u64 c,.int .u64 d,.bool e,.int .i64 f,.int .i64 g])∧Typed dQ o∧a<256∧(Lit.int .i64 b).wf=true∧(Lit.int .u64 c).wf=true∧(Lit.int .u64 d).wf=true∧(Lit.int .i64 f).wf=true∧(Lit.int .i64 g).wf=true:=by
 have hl:l.length=39:=h.1
 obtain ⟨_,h0,a,rfl,wa⟩:=h.2 0 .u8 rfl
 obtain ⟨_,h33,b,rfl,wb⟩:=h.2 33 (.i .i64) rfl
 obtain ⟨_,h34,c,rfl,wc⟩:=h.2 34 (.i .u64) rfl
 obtain ⟨_,h35,d,rfl,wd⟩:=h.2 35 (.i .u64) rfl
 obtain ⟨_,h36,e,rfl⟩:=h.2 36 .b rfl
 obtain ⟨_,h37,f,rfl,wf⟩:=h.2 37 (.i .i64) rfl
 obtain ⟨_,h38,g,rfl,wg⟩:=h.2 38 (.i .i64) rfl
 refine ⟨a,(l.drop 1).take 32,b,c,d,e,f,g,?_,?_,wa,wb,wc,wd,wf,wg⟩
 ·refine List.ext_getElem? fun i => ?_
  have hlo:((l.drop 1).take 32).length=32:=by rw [List.length_take,List.length_drop];omega
  rcases i with _|i
  ·exact h0
  ·rw [List.getElem?_cons_succ]
   by_cases hi:i<32
   ·rw [List.getElem?_append_left (by omega),List.getElem?_take,if_pos hi,List.getElem?_drop,Nat.add_comm]
   ·rw [List.getElem?_append_right (by omega),hlo]
    rcases (show i=32∨i=33∨i=34∨i=35∨i=36∨i=37∨38≤i by omega) with rfl|rfl|rfl|rfl|rfl|rfl|h38'
    ·exact h33
    ·exact h34
    ·exact h35
    ·exact h36
    ·exact h37
    ·exact h38
    ·rw [List.getElem?_eq_none (by omega),List.getElem?_eq_none (by simp;omega)]
 ·refine ⟨by rw [List.length_take,List.length_drop,hl];rfl,fun j k hk => ?_⟩
  have hj:j<32:=by
   have:=(List.getElem?_eq_some_iff.1 hk).1
   simpa [dQ] using this
  have hk':k = .u8:=by
   unfold dQ at hk
   rw [List.getElem?_replicate,if_pos hj] at hk
   exact (Option.some.inj hk).symm
  subst hk'
  obtain ⟨v,hv,hh⟩:=h.2 (j+1) .u8 (by
   unfold recK
   rw [List.getElem?_cons_succ,List.getElem?_append_left (by simpa using hj),List.getElem?_replicate,if_pos hj])
  exact ⟨v,by rw [List.getElem?_take,if_pos hj,List.getElem?_drop,Nat.add_comm];exact hv,hh⟩
theorem rec_at {a b c d e f:Value} {x:Value} {o:List Value} (ho:o.length=32) (i:Nat):(x::(o ++ [a,b,c,d,e,f])).toArray[33+i]? = [a,b,c,d,e,f][i]? := by
 rw [List.getElem?_toArray,show 33+i=(32+i)+1 by omega,List.getElem?_cons_succ,List.getElem?_append_right (by omega),ho,Nat.add_sub_cancel_left]
theorem rec_obj {x:Value} {o t:List Value} (ho:o.length=32):(x::(o++t)).toArray.extract 1 (1+32)=o.toArray:=by
 rw [List.extract_toArray]
 congr 1
 show ((x::(o++t)).drop 1).take (1+32-1)=o
 rw [List.drop_succ_cons,List.drop_zero,show 1+32-1=32 from rfl,←ho,List.take_left']
 rfl
theorem eq61:EqT 61 recK:=by
 intro xs ys hx hy
 have fx:=hx.all.2.2
 have fy:=hy.all.2.2
 obtain ⟨a,o,b,c,d,e,f,g,rfl,ho,_⟩:=rec_form hx
 obtain ⟨a',o',b',c',d',e',f',g',rfl,ho',_⟩:=rec_form hy
 obtain ⟨r,hr,hrun⟩:=dig_run (d:=9997) ho ho'
 have l1:o.length=32:=ho.1
 have l2:o'.length=32:=ho'.1
 have hp:bT Tryz.prog (Op.equalIn 10000 61 (.agg (Value.int .u8 a::(o ++ [.int .i64 b,.int .u64 c,.int .u64 d,.bool e,.int .i64 f,.int .i64 g])).toArray) (.agg (Value.int .u8 a'::(o' ++ [.int .i64 b',.int .u64 c',.int .u64 d',.bool e',.int .i64 f',.int .i64 g'])).toArray))
   = some (decide ((a:Int)=a')&&(r&&(decide (b=b')&&(decide (c=c')&&(decide (d=d')&&(decide (e=e')&&(decide (f=f')&&decide (g=g')))))))):=by
  rw [pr_eq_struct (P:=Tryz.prog) (d:=9999) Tryz.underlying61 (by kernel_rfl)]
  simp only [eqF]
  rw [if_pos (by decide),if_pos (by decide),if_pos (by decide),if_pos (by decide),if_pos (by decide),if_pos (by decide),if_pos (by decide),if_pos (by decide)]
  rw [b9 (v := .int .u8 a) Tryz.underlying59 rfl,b9 (v := .int .u8 a') Tryz.underlying59 rfl,pr_part_arr Tryz.underlying28 size32,pr_part_arr Tryz.underlying28 size32,rec_obj l1,rec_obj l2]
  rw [b9 (v := .int .i64 b) Tryz.underlying3 (rec_at l1 0),b9 (v := .int .i64 b') Tryz.underlying3 (rec_at l2 0),b9 (v := .int .u64 c) Tryz.underlying25 (rec_at l1 1),b9 (v := .int .u64 c') Tryz.underlying25 (rec_at l2 1),
   b9 (v := .int .u64 d) Tryz.underlying25 (rec_at l1 2),b9 (v := .int .u64 d') Tryz.underlying25 (rec_at l2 2),pr_part_bool (v := .bool e) Tryz.underlying4 (rec_at l1 3),pr_part_bool (v := .bool e') Tryz.underlying4 (rec_at l2 3),
   b9 (v := .int .i64 f) Tryz.underlying3 (rec_at l1 4),b9 (v := .int .i64 f') Tryz.underlying3 (rec_at l2 4),b9 (v := .int .i64 g) Tryz.underlying3 (rec_at l1 5),b9 (v := .int .i64 g') Tryz.underlying3 (rec_at l2 5)]
  simp only [Option.bind_some,pr_eq_int (d:=9998) Tryz.underlying59,pr_eq_int (d:=9998) Tryz.underlying3,pr_eq_int (d:=9998) Tryz.underlying25,pr_eq_bool (d:=9998) Tryz.underlying4,hrun]
  by_cases e1:(a:Int)=a'
  ·cases r
   ·simp [e1]
   ·by_cases e2:b=b'<;>by_cases e3:c=c'<;>by_cases e4:d=d'<;>by_cases e5:e=e'<;>by_cases e6:f=f'<;>by_cases e7:g=g'<;>simp [e1,e2,e3,e4,e5,e6,e7]
  ·simp [e1]
 refine ⟨_,?_,bin_agg (by kernel_rfl) (ground_agg fx) (ground_agg fy) hp⟩
 constructor
 ·intro h
  simp only [Bool.and_eq_true,decide_eq_true_eq] at h
  obtain ⟨h1,h2,h3,h4,h5,h6,h7,h8⟩:=h
  rw [h1,hr.1 h2,h3,h4,h5,h6,h7,h8]
 ·intro h
  rw [List.cons.injEq] at h
  obtain ⟨h1,h2⟩:=h
  have h3:=List.append_inj h2 (by omega)
  obtain ⟨h4,h5⟩:=h3
  simp only [List.cons.injEq,Value.int.injEq,Value.bool.injEq,true_and,and_true] at h5 h1
  simp only [Bool.and_eq_true,decide_eq_true_eq]
  exact ⟨h1,hr.2 h4,h5⟩
end Go.Proofs.YtjghlcdidopcpaaGreatDoor

namespace Go.Proofs.YtjghlcdidopcpaaGreatDoor
open Go Go.Abs
noncomputable def k53_4 (C:au) (e:Env) (h:aj):Out:=aT Tryz.prog C (partOf Tryz.f53 [1,1,1]) e h (ar Tryz.prog Tryz.f53.results.toList) (ar Tryz.prog Tryz.f53.results.toList) (fun _ _ _=>none)
noncomputable def b53_6 (C:au) (i:Nat) (e:Env) (h:aj):Out:=if i=0 then (k53_4 C) e h else (fun _ _ _=>none) i e h
noncomputable def t53 (C:au) (x0 x1:Value) (h:aj):Out:=
 ae (some ((.bool false),h)) fun y4 h=>
 ae (some (x0,h)) fun y6 h=>
 ae (pu (bG y6) h) fun y7 h=>
 ae (some (x1,h)) fun y8 h=>
 ae (pu (bG y8) h) fun y9 h=>
 ae (pu (bin Tryz.prog .neq 3 y7 y9) h) fun y10 h=>
 (match y10 with
 | .bool true=>
 ae (some ((.bool false),h)) fun y4_1 h=>
 some (y4_1,h)
 | .bool false=>
 ae (some (x0,h)) fun y11 h=>
 ae (pu (bG y11) h) fun y12 h=>
 ae (some ((.int .i64 0),h)) fun y13 h=>
 dX (iter (aM Tryz.prog C (partOf Tryz.f53 [1,1,0,1,0,0])) rounds (aJ 26 (up (bs [x0,x1]) [(4,y4),(6,y6),(7,y7),(8,y8),(9,y9),(10,y10),(11,y11),(12,y12),(13,y13)])) h) (ar Tryz.prog Tryz.f53.results.toList) (b53_6 C)
 |_=>none)
noncomputable def t53k53_4 (C:au) (x:Nat→Value) (h:aj):Out:=
 ae (some ((.bool true),h)) fun y4 h=>
 some (y4,h)
noncomputable def t53l53_11010 (C:au) (x:Nat→Value) (h:aj):Option (Ex×Env×aj):=
 ae (pu (bin Tryz.prog .lss 3 (x 13) (x 12)) h) fun y14 h=>
 (match y14 with
 | .bool true=>
 ae (some ((x 13),h)) fun y15 h=>
 ae (some (y15,h)) fun y5 h=>
 ae (some ((x 0),h)) fun y16 h=>
 ae (some (y5,h)) fun y17 h=>
 ae (pu (bB 2 y16 y17) h) fun y18 h=>
 ae (bD 2 y18 h) fun y19 h=>
 ae (some ((x 1),h)) fun y20 h=>
 ae (some (y5,h)) fun y21 h=>
 ae (pu (bB 2 y20 y21) h) fun y22 h=>
 ae (bD 2 y22 h) fun y23 h=>
 ae (pu (bin Tryz.prog .neq 58 y19 y23) h) fun y24 h=>
 (match y24 with
 | .bool true=>
 ae (some ((.bool false),h)) fun y4 h=>
 some (.ret,(aJ 26 (up x [(4,y4),(5,y5),(14,y14),(15,y15),(16,y16),(17,y17),(18,y18),(19,y19),(20,y20),(21,y21),(22,y22),(23,y23),(24,y24)])),h)
 | .bool false=>
 ae (pu (bin Tryz.prog .add 3 (x 13) (.int .i64 1)) h) fun y25 h=>
 ae (some (y25,h)) fun y13 h=>
 some (.normal,(aJ 26 (up x [(5,y5),(13,y13),(14,y14),(15,y15),(16,y16),(17,y17),(18,y18),(19,y19),(20,y20),(21,y21),(22,y22),(23,y23),(24,y24),(25,y25)])),h)
 |_=>none)
 | .bool false=>
 some (.exit 0,(aJ 26 (up x [(14,y14)])),h)
 |_=>none)
theorem t53_eq (C:au) (x0 x1:Value) (h:aj):bf Tryz.prog C Tryz.f53 [x0,x1] h=t53 C x0 x1 h:=
 (aL Tryz.prog C Tryz.f53 [x0,x1] h (by kernel_rfl)).trans (by kernel_rfl)
theorem t53k53_4_eq (C:au) (x:Nat→Value) (h:aj):k53_4 C (aJ 26 x) h=t53k53_4 C x h:=
 bg (b:=(partOf Tryz.f53 [1,1,1])) (kE:=(ar Tryz.prog Tryz.f53.results.toList)) (rE:=(ar Tryz.prog Tryz.f53.results.toList)) (xE:=(fun _ _ _=>none)) (T:=t53k53_4 C) (fun x h=>by kernel_rfl) x h
theorem t53l53_11010_eq (C:au) (x:Nat→Value) (h:aj):aM Tryz.prog C (partOf Tryz.f53 [1,1,0,1,0,0]) (aJ 26 x) h=t53l53_11010 C x h:=
 bn (T:=t53l53_11010 C) (fun x h=>by kernel_rfl) x h
noncomputable def k54_4 (C:au) (e:Env) (h:aj):Out:=aT Tryz.prog C (partOf Tryz.f54 [1,1,1]) e h (ar Tryz.prog Tryz.f54.results.toList) (ar Tryz.prog Tryz.f54.results.toList) (fun _ _ _=>none)
noncomputable def b54_6 (C:au) (i:Nat) (e:Env) (h:aj):Out:=if i=0 then (k54_4 C) e h else (fun _ _ _=>none) i e h
noncomputable def t54 (C:au) (x0 x1:Value) (h:aj):Out:=
 ae (some ((.bool false),h)) fun y4 h=>
 ae (some (x0,h)) fun y6 h=>
 ae (pu (bG y6) h) fun y7 h=>
 ae (some (x1,h)) fun y8 h=>
 ae (pu (bG y8) h) fun y9 h=>
 ae (pu (bin Tryz.prog .neq 3 y7 y9) h) fun y10 h=>
 (match y10 with
 | .bool true=>
 ae (some ((.bool false),h)) fun y4_1 h=>
 some (y4_1,h)
 | .bool false=>
 ae (some (x0,h)) fun y11 h=>
 ae (pu (bG y11) h) fun y12 h=>
 ae (some ((.int .i64 0),h)) fun y13 h=>
 dX (iter (aM Tryz.prog C (partOf Tryz.f54 [1,1,0,1,0,0])) rounds (aJ 26 (up (bs [x0,x1]) [(4,y4),(6,y6),(7,y7),(8,y8),(9,y9),(10,y10),(11,y11),(12,y12),(13,y13)])) h) (ar Tryz.prog Tryz.f54.results.toList) (b54_6 C)
 |_=>none)
noncomputable def t54k54_4 (C:au) (x:Nat→Value) (h:aj):Out:=
 ae (some ((.bool true),h)) fun y4 h=>
 some (y4,h)
noncomputable def t54l54_11010 (C:au) (x:Nat→Value) (h:aj):Option (Ex×Env×aj):=
 ae (pu (bin Tryz.prog .lss 3 (x 13) (x 12)) h) fun y14 h=>
 (match y14 with
 | .bool true=>
 ae (some ((x 13),h)) fun y15 h=>
 ae (some (y15,h)) fun y5 h=>
 ae (some ((x 0),h)) fun y16 h=>
 ae (some (y5,h)) fun y17 h=>
 ae (pu (bB 1 y16 y17) h) fun y18 h=>
 ae (aN y18 h) fun y19 h=>
 ae (some ((x 1),h)) fun y20 h=>
 ae (some (y5,h)) fun y21 h=>
 ae (pu (bB 1 y20 y21) h) fun y22 h=>
 ae (aN y22 h) fun y23 h=>
 ae (pu (bin Tryz.prog .neq 5 y19 y23) h) fun y24 h=>
 (match y24 with
 | .bool true=>
 ae (some ((.bool false),h)) fun y4 h=>
 some (.ret,(aJ 26 (up x [(4,y4),(5,y5),(14,y14),(15,y15),(16,y16),(17,y17),(18,y18),(19,y19),(20,y20),(21,y21),(22,y22),(23,y23),(24,y24)])),h)
 | .bool false=>
 ae (pu (bin Tryz.prog .add 3 (x 13) (.int .i64 1)) h) fun y25 h=>
 ae (some (y25,h)) fun y13 h=>
 some (.normal,(aJ 26 (up x [(5,y5),(13,y13),(14,y14),(15,y15),(16,y16),(17,y17),(18,y18),(19,y19),(20,y20),(21,y21),(22,y22),(23,y23),(24,y24),(25,y25)])),h)
 |_=>none)
 | .bool false=>
 some (.exit 0,(aJ 26 (up x [(14,y14)])),h)
 |_=>none)
theorem t54_eq (C:au) (x0 x1:Value) (h:aj):bf Tryz.prog C Tryz.f54 [x0,x1] h=t54 C x0 x1 h:=
 (aL Tryz.prog C Tryz.f54 [x0,x1] h (by kernel_rfl)).trans (by kernel_rfl)
theorem t54k54_4_eq (C:au) (x:Nat→Value) (h:aj):k54_4 C (aJ 26 x) h=t54k54_4 C x h:=
 bg (b:=(partOf Tryz.f54 [1,1,1])) (kE:=(ar Tryz.prog Tryz.f54.results.toList)) (rE:=(ar Tryz.prog Tryz.f54.results.toList)) (xE:=(fun _ _ _=>none)) (T:=t54k54_4 C) (fun x h=>by kernel_rfl) x h
theorem t54l54_11010_eq (C:au) (x:Nat→Value) (h:aj):aM Tryz.prog C (partOf Tryz.f54 [1,1,0,1,0,0]) (aJ 26 x) h=t54l54_11010 C x h:=
 bn (T:=t54l54_11010 C) (fun x h=>by kernel_rfl) x h
noncomputable def k55_4 (C:au) (e:Env) (h:aj):Out:=aT Tryz.prog C (partOf Tryz.f55 [1,1,1]) e h (ar Tryz.prog Tryz.f55.results.toList) (ar Tryz.prog Tryz.f55.results.toList) (fun _ _ _=>none)
noncomputable def b55_6 (C:au) (i:Nat) (e:Env) (h:aj):Out:=if i=0 then (k55_4 C) e h else (fun _ _ _=>none) i e h
noncomputable def t55 (C:au) (x0 x1:Value) (h:aj):Out:=
 ae (some ((.bool false),h)) fun y4 h=>
 ae (some (x0,h)) fun y6 h=>
 ae (pu (bG y6) h) fun y7 h=>
 ae (some (x1,h)) fun y8 h=>
 ae (pu (bG y8) h) fun y9 h=>
 ae (pu (bin Tryz.prog .neq 3 y7 y9) h) fun y10 h=>
 (match y10 with
 | .bool true=>
 ae (some ((.bool false),h)) fun y4_1 h=>
 some (y4_1,h)
 | .bool false=>
 ae (some (x0,h)) fun y11 h=>
 ae (pu (bG y11) h) fun y12 h=>
 ae (some ((.int .i64 0),h)) fun y13 h=>
 dX (iter (aM Tryz.prog C (partOf Tryz.f55 [1,1,0,1,0,0])) rounds (aJ 26 (up (bs [x0,x1]) [(4,y4),(6,y6),(7,y7),(8,y8),(9,y9),(10,y10),(11,y11),(12,y12),(13,y13)])) h) (ar Tryz.prog Tryz.f55.results.toList) (b55_6 C)
 |_=>none)
noncomputable def t55k55_4 (C:au) (x:Nat→Value) (h:aj):Out:=
 ae (some ((.bool true),h)) fun y4 h=>
 some (y4,h)
noncomputable def t55l55_11010 (C:au) (x:Nat→Value) (h:aj):Option (Ex×Env×aj):=
 ae (pu (bin Tryz.prog .lss 3 (x 13) (x 12)) h) fun y14 h=>
 (match y14 with
 | .bool true=>
 ae (some ((x 13),h)) fun y15 h=>
 ae (some (y15,h)) fun y5 h=>
 ae (some ((x 0),h)) fun y16 h=>
 ae (some (y5,h)) fun y17 h=>
 ae (pu (bB 39 y16 y17) h) fun y18 h=>
 ae (bD 39 y18 h) fun y19 h=>
 ae (some ((x 1),h)) fun y20 h=>
 ae (some (y5,h)) fun y21 h=>
 ae (pu (bB 39 y20 y21) h) fun y22 h=>
 ae (bD 39 y22 h) fun y23 h=>
 ae (pu (bin Tryz.prog .neq 61 y19 y23) h) fun y24 h=>
 (match y24 with
 | .bool true=>
 ae (some ((.bool false),h)) fun y4 h=>
 some (.ret,(aJ 26 (up x [(4,y4),(5,y5),(14,y14),(15,y15),(16,y16),(17,y17),(18,y18),(19,y19),(20,y20),(21,y21),(22,y22),(23,y23),(24,y24)])),h)
 | .bool false=>
 ae (pu (bin Tryz.prog .add 3 (x 13) (.int .i64 1)) h) fun y25 h=>
 ae (some (y25,h)) fun y13 h=>
 some (.normal,(aJ 26 (up x [(5,y5),(13,y13),(14,y14),(15,y15),(16,y16),(17,y17),(18,y18),(19,y19),(20,y20),(21,y21),(22,y22),(23,y23),(24,y24),(25,y25)])),h)
 |_=>none)
 | .bool false=>
 some (.exit 0,(aJ 26 (up x [(14,y14)])),h)
 |_=>none)
theorem t55_eq (C:au) (x0 x1:Value) (h:aj):bf Tryz.prog C Tryz.f55 [x0,x1] h=t55 C x0 x1 h:=
 (aL Tryz.prog C Tryz.f55 [x0,x1] h (by kernel_rfl)).trans (by kernel_rfl)
theorem t55k55_4_eq (C:au) (x:Nat→Value) (h:aj):k55_4 C (aJ 26 x) h=t55k55_4 C x h:=
 bg (b:=(partOf Tryz.f55 [1,1,1])) (kE:=(ar Tryz.prog Tryz.f55.results.toList)) (rE:=(ar Tryz.prog Tryz.f55.results.toList)) (xE:=(fun _ _ _=>none)) (T:=t55k55_4 C) (fun x h=>by kernel_rfl) x h
theorem t55l55_11010_eq (C:au) (x:Nat→Value) (h:aj):aM Tryz.prog C (partOf Tryz.f55 [1,1,0,1,0,0]) (aJ 26 x) h=t55l55_11010 C x h:=
 bn (T:=t55l55_11010 C) (fun x h=>by kernel_rfl) x h
noncomputable def k86_4 (C:au) (e:Env) (h:aj):Out:=aT Tryz.prog C (partOf Tryz.f86 [1,1,1]) e h (ar Tryz.prog Tryz.f86.results.toList) (ar Tryz.prog Tryz.f86.results.toList) (fun _ _ _=>none)
noncomputable def b86_6 (C:au) (i:Nat) (e:Env) (h:aj):Out:=if i=0 then (k86_4 C) e h else (fun _ _ _=>none) i e h
noncomputable def t86 (C:au) (x0 x1:Value) (h:aj):Out:=
 ae (some ((.bool false),h)) fun y4 h=>
 ae (some (x0,h)) fun y6 h=>
 ae (pu (bG y6) h) fun y7 h=>
 ae (some (x1,h)) fun y8 h=>
 ae (pu (bG y8) h) fun y9 h=>
 ae (pu (bin Tryz.prog .neq 3 y7 y9) h) fun y10 h=>
 (match y10 with
 | .bool true=>
 ae (some ((.bool false),h)) fun y4_1 h=>
 some (y4_1,h)
 | .bool false=>
 ae (some (x0,h)) fun y11 h=>
 ae (pu (bG y11) h) fun y12 h=>
 ae (some ((.int .i64 0),h)) fun y13 h=>
 dX (iter (aM Tryz.prog C (partOf Tryz.f86 [1,1,0,1,0,0])) rounds (aJ 26 (up (bs [x0,x1]) [(4,y4),(6,y6),(7,y7),(8,y8),(9,y9),(10,y10),(11,y11),(12,y12),(13,y13)])) h) (ar Tryz.prog Tryz.f86.results.toList) (b86_6 C)
 |_=>none)
noncomputable def t86k86_4 (C:au) (x:Nat→Value) (h:aj):Out:=
 ae (some ((.bool true),h)) fun y4 h=>
 some (y4,h)
noncomputable def t86l86_11010 (C:au) (x:Nat→Value) (h:aj):Option (Ex×Env×aj):=
 ae (pu (bin Tryz.prog .lss 3 (x 13) (x 12)) h) fun y14 h=>
 (match y14 with
 | .bool true=>
 ae (some ((x 13),h)) fun y15 h=>
 ae (some (y15,h)) fun y5 h=>
 ae (some ((x 0),h)) fun y16 h=>
 ae (some (y5,h)) fun y17 h=>
 ae (pu (bB 32 y16 y17) h) fun y18 h=>
 ae (bD 32 y18 h) fun y19 h=>
 ae (some ((x 1),h)) fun y20 h=>
 ae (some (y5,h)) fun y21 h=>
 ae (pu (bB 32 y20 y21) h) fun y22 h=>
 ae (bD 32 y22 h) fun y23 h=>
 ae (pu (bin Tryz.prog .neq 28 y19 y23) h) fun y24 h=>
 (match y24 with
 | .bool true=>
 ae (some ((.bool false),h)) fun y4 h=>
 some (.ret,(aJ 26 (up x [(4,y4),(5,y5),(14,y14),(15,y15),(16,y16),(17,y17),(18,y18),(19,y19),(20,y20),(21,y21),(22,y22),(23,y23),(24,y24)])),h)
 | .bool false=>
 ae (pu (bin Tryz.prog .add 3 (x 13) (.int .i64 1)) h) fun y25 h=>
 ae (some (y25,h)) fun y13 h=>
 some (.normal,(aJ 26 (up x [(5,y5),(13,y13),(14,y14),(15,y15),(16,y16),(17,y17),(18,y18),(19,y19),(20,y20),(21,y21),(22,y22),(23,y23),(24,y24),(25,y25)])),h)
 |_=>none)
 | .bool false=>
 some (.exit 0,(aJ 26 (up x [(14,y14)])),h)
 |_=>none)
theorem t86_eq (C:au) (x0 x1:Value) (h:aj):bf Tryz.prog C Tryz.f86 [x0,x1] h=t86 C x0 x1 h:=
 (aL Tryz.prog C Tryz.f86 [x0,x1] h (by kernel_rfl)).trans (by kernel_rfl)
theorem t86k86_4_eq (C:au) (x:Nat→Value) (h:aj):k86_4 C (aJ 26 x) h=t86k86_4 C x h:=
 bg (b:=(partOf Tryz.f86 [1,1,1])) (kE:=(ar Tryz.prog Tryz.f86.results.toList)) (rE:=(ar Tryz.prog Tryz.f86.results.toList)) (xE:=(fun _ _ _=>none)) (T:=t86k86_4 C) (fun x h=>by kernel_rfl) x h
theorem t86l86_11010_eq (C:au) (x:Nat→Value) (h:aj):aM Tryz.prog C (partOf Tryz.f86 [1,1,0,1,0,0]) (aJ 26 x) h=t86l86_11010 C x h:=
 bn (T:=t86l86_11010 C) (fun x h=>by kernel_rfl) x h
noncomputable def k43_4 (C:au) (e:Env) (h:aj):Out:=aT Tryz.prog C (partOf Tryz.f43 [1,1,1]) e h (ar Tryz.prog Tryz.f43.results.toList) (ar Tryz.prog Tryz.f43.results.toList) (fun _ _ _=>none)
noncomputable def b43_6 (C:au) (i:Nat) (e:Env) (h:aj):Out:=if i=0 then (k43_4 C) e h else (fun _ _ _=>none) i e h
noncomputable def t43 (C:au) (x0 x1:Value) (h:aj):Out:=
 ae (some ((.bool false),h)) fun y4 h=>
 ae (some (x0,h)) fun y6 h=>
 ae (pu (bG y6) h) fun y7 h=>
 ae (some (x1,h)) fun y8 h=>
 ae (pu (bG y8) h) fun y9 h=>
 ae (pu (bin Tryz.prog .neq 3 y7 y9) h) fun y10 h=>
 (match y10 with
 | .bool true=>
 ae (some ((.bool false),h)) fun y4_1 h=>
 some (y4_1,h)
 | .bool false=>
 ae (some ((.int .i64 0),h)) fun y5 h=>
 dX (iter (aM Tryz.prog C (partOf Tryz.f43 [1,1,0,1,0,0])) rounds (aJ 26 (up (bs [x0,x1]) [(4,y4),(5,y5),(6,y6),(7,y7),(8,y8),(9,y9),(10,y10)])) h) (ar Tryz.prog Tryz.f43.results.toList) (b43_6 C)
 |_=>none)
noncomputable def t43k43_4 (C:au) (x:Nat→Value) (h:aj):Out:=
 ae (some ((.bool true),h)) fun y4 h=>
 some (y4,h)
noncomputable def t43l43_11010 (C:au) (x:Nat→Value) (h:aj):Option (Ex×Env×aj):=
 ae (some ((x 5),h)) fun y11 h=>
 ae (some ((x 0),h)) fun y12 h=>
 ae (pu (bG y12) h) fun y13 h=>
 ae (pu (bin Tryz.prog .lss 3 y11 y13) h) fun y14 h=>
 (match y14 with
 | .bool true=>
 ae (some ((x 0),h)) fun y17 h=>
 ae (some ((x 5),h)) fun y18 h=>
 ae (pu (bB 2 y17 y18) h) fun y19 h=>
 ae (bD 2 y19 h) fun y20 h=>
 ae (some ((x 1),h)) fun y21 h=>
 ae (some ((x 5),h)) fun y22 h=>
 ae (pu (bB 2 y21 y22) h) fun y23 h=>
 ae (bD 2 y23 h) fun y24 h=>
 ae (pu (bin Tryz.prog .neq 58 y20 y24) h) fun y25 h=>
 (match y25 with
 | .bool true=>
 ae (some ((.bool false),h)) fun y4 h=>
 some (.ret,(aJ 26 (up x [(4,y4),(11,y11),(12,y12),(13,y13),(14,y14),(17,y17),(18,y18),(19,y19),(20,y20),(21,y21),(22,y22),(23,y23),(24,y24),(25,y25)])),h)
 | .bool false=>
 ae (some ((x 5),h)) fun y15 h=>
 ae (pu (bin Tryz.prog .add 3 y15 (.int .i64 1)) h) fun y16 h=>
 ae (some (y16,h)) fun y5 h=>
 some (.normal,(aJ 26 (up x [(5,y5),(11,y11),(12,y12),(13,y13),(14,y14),(15,y15),(16,y16),(17,y17),(18,y18),(19,y19),(20,y20),(21,y21),(22,y22),(23,y23),(24,y24),(25,y25)])),h)
 |_=>none)
 | .bool false=>
 some (.exit 0,(aJ 26 (up x [(11,y11),(12,y12),(13,y13),(14,y14)])),h)
 |_=>none)
theorem t43_eq (C:au) (x0 x1:Value) (h:aj):bf Tryz.prog C Tryz.f43 [x0,x1] h=t43 C x0 x1 h:=
 (aL Tryz.prog C Tryz.f43 [x0,x1] h (by kernel_rfl)).trans (by kernel_rfl)
theorem t43k43_4_eq (C:au) (x:Nat→Value) (h:aj):k43_4 C (aJ 26 x) h=t43k43_4 C x h:=
 bg (b:=(partOf Tryz.f43 [1,1,1])) (kE:=(ar Tryz.prog Tryz.f43.results.toList)) (rE:=(ar Tryz.prog Tryz.f43.results.toList)) (xE:=(fun _ _ _=>none)) (T:=t43k43_4 C) (fun x h=>by kernel_rfl) x h
theorem t43l43_11010_eq (C:au) (x:Nat→Value) (h:aj):aM Tryz.prog C (partOf Tryz.f43 [1,1,0,1,0,0]) (aJ 26 x) h=t43l43_11010 C x h:=
 bn (T:=t43l43_11010 C) (fun x h=>by kernel_rfl) x h
noncomputable def k44_4 (C:au) (e:Env) (h:aj):Out:=aT Tryz.prog C (partOf Tryz.f44 [1,1,1]) e h (ar Tryz.prog Tryz.f44.results.toList) (ar Tryz.prog Tryz.f44.results.toList) (fun _ _ _=>none)
noncomputable def b44_6 (C:au) (i:Nat) (e:Env) (h:aj):Out:=if i=0 then (k44_4 C) e h else (fun _ _ _=>none) i e h
noncomputable def t44 (C:au) (x0 x1:Value) (h:aj):Out:=
 ae (some ((.bool false),h)) fun y4 h=>
 ae (some (x0,h)) fun y6 h=>
 ae (pu (bG y6) h) fun y7 h=>
 ae (some (x1,h)) fun y8 h=>
 ae (pu (bG y8) h) fun y9 h=>
 ae (pu (bin Tryz.prog .neq 3 y7 y9) h) fun y10 h=>
 (match y10 with
 | .bool true=>
 ae (some ((.bool false),h)) fun y4_1 h=>
 some (y4_1,h)
 | .bool false=>
 ae (some ((.int .i64 0),h)) fun y5 h=>
 dX (iter (aM Tryz.prog C (partOf Tryz.f44 [1,1,0,1,0,0])) rounds (aJ 26 (up (bs [x0,x1]) [(4,y4),(5,y5),(6,y6),(7,y7),(8,y8),(9,y9),(10,y10)])) h) (ar Tryz.prog Tryz.f44.results.toList) (b44_6 C)
 |_=>none)
noncomputable def t44k44_4 (C:au) (x:Nat→Value) (h:aj):Out:=
 ae (some ((.bool true),h)) fun y4 h=>
 some (y4,h)
noncomputable def t44l44_11010 (C:au) (x:Nat→Value) (h:aj):Option (Ex×Env×aj):=
 ae (some ((x 5),h)) fun y11 h=>
 ae (some ((x 0),h)) fun y12 h=>
 ae (pu (bG y12) h) fun y13 h=>
 ae (pu (bin Tryz.prog .lss 3 y11 y13) h) fun y14 h=>
 (match y14 with
 | .bool true=>
 ae (some ((x 0),h)) fun y17 h=>
 ae (some ((x 5),h)) fun y18 h=>
 ae (pu (bB 39 y17 y18) h) fun y19 h=>
 ae (bD 39 y19 h) fun y20 h=>
 ae (some ((x 1),h)) fun y21 h=>
 ae (some ((x 5),h)) fun y22 h=>
 ae (pu (bB 39 y21 y22) h) fun y23 h=>
 ae (bD 39 y23 h) fun y24 h=>
 ae (pu (bin Tryz.prog .neq 61 y20 y24) h) fun y25 h=>
 (match y25 with
 | .bool true=>
 ae (some ((.bool false),h)) fun y4 h=>
 some (.ret,(aJ 26 (up x [(4,y4),(11,y11),(12,y12),(13,y13),(14,y14),(17,y17),(18,y18),(19,y19),(20,y20),(21,y21),(22,y22),(23,y23),(24,y24),(25,y25)])),h)
 | .bool false=>
 ae (some ((x 5),h)) fun y15 h=>
 ae (pu (bin Tryz.prog .add 3 y15 (.int .i64 1)) h) fun y16 h=>
 ae (some (y16,h)) fun y5 h=>
 some (.normal,(aJ 26 (up x [(5,y5),(11,y11),(12,y12),(13,y13),(14,y14),(15,y15),(16,y16),(17,y17),(18,y18),(19,y19),(20,y20),(21,y21),(22,y22),(23,y23),(24,y24),(25,y25)])),h)
 |_=>none)
 | .bool false=>
 some (.exit 0,(aJ 26 (up x [(11,y11),(12,y12),(13,y13),(14,y14)])),h)
 |_=>none)
theorem t44_eq (C:au) (x0 x1:Value) (h:aj):bf Tryz.prog C Tryz.f44 [x0,x1] h=t44 C x0 x1 h:=
 (aL Tryz.prog C Tryz.f44 [x0,x1] h (by kernel_rfl)).trans (by kernel_rfl)
theorem t44k44_4_eq (C:au) (x:Nat→Value) (h:aj):k44_4 C (aJ 26 x) h=t44k44_4 C x h:=
 bg (b:=(partOf Tryz.f44 [1,1,1])) (kE:=(ar Tryz.prog Tryz.f44.results.toList)) (rE:=(ar Tryz.prog Tryz.f44.results.toList)) (xE:=(fun _ _ _=>none)) (T:=t44k44_4 C) (fun x h=>by kernel_rfl) x h
theorem t44l44_11010_eq (C:au) (x:Nat→Value) (h:aj):aM Tryz.prog C (partOf Tryz.f44 [1,1,0,1,0,0]) (aJ 26 x) h=t44l44_11010 C x h:=
 bn (T:=t44l44_11010 C) (fun x h=>by kernel_rfl) x h
noncomputable def k45_4 (C:au) (e:Env) (h:aj):Out:=aT Tryz.prog C (partOf Tryz.f45 [1,1,1]) e h (ar Tryz.prog Tryz.f45.results.toList) (ar Tryz.prog Tryz.f45.results.toList) (fun _ _ _=>none)
noncomputable def b45_6 (C:au) (i:Nat) (e:Env) (h:aj):Out:=if i=0 then (k45_4 C) e h else (fun _ _ _=>none) i e h
noncomputable def t45 (C:au) (x0 x1:Value) (h:aj):Out:=
 ae (box x0 h) fun y2 h=>
 ae (box x1 h) fun y3 h=>
 ae (some ((.bool false),h)) fun y4 h=>
 ae (pu (aA y2 0) h) fun y6 h=>
 ae (aN y6 h) fun y7 h=>
 ae (pu (aA y3 0) h) fun y8 h=>
 ae (aN y8 h) fun y9 h=>
 ae (pu (bin Tryz.prog .neq 3 y7 y9) h) fun y10 h=>
 ae (some (y10,h)) fun y11 h=>
 ae (aq (aI y11==some false) (pu (aA y2 1) h) h) fun y12 h=>
 ae (aq (aI y11==some false) (aN y12 h) h) fun y13 h=>
 ae (aq (aI y11==some false) (pu (aA y3 1) h) h) fun y14 h=>
 ae (aq (aI y11==some false) (aN y14 h) h) fun y15 h=>
 ae (aq (aI y11==some false) (pu (bin Tryz.prog .neq 3 y13 y15) h) h) fun y16 h=>
 ae (match y11 with | .bool t=>some (if t then (.bool true) else y16,h)|_=>none) fun y17 h=>
 ae (some (y17,h)) fun y18 h=>
 ae (aq (aI y18==some false) (pu (aA y2 2) h) h) fun y19 h=>
 ae (aq (aI y18==some false) (aN y19 h) h) fun y20 h=>
 ae (aq (aI y18==some false) (pu (aA y3 2) h) h) fun y21 h=>
 ae (aq (aI y18==some false) (aN y21 h) h) fun y22 h=>
 ae (aq (aI y18==some false) (pu (bin Tryz.prog .neq 3 y20 y22) h) h) fun y23 h=>
 ae (match y18 with | .bool t=>some (if t then (.bool true) else y23,h)|_=>none) fun y24 h=>
 ae (some (y24,h)) fun y25 h=>
 ae (aq (aI y25==some false) (pu (aA y2 3) h) h) fun cV h=>
 ae (aq (aI y25==some false) (aN cV h) h) fun dn h=>
 ae (aq (aI y25==some false) (pu (aA y3 3) h) h) fun y28 h=>
 ae (aq (aI y25==some false) (aN y28 h) h) fun y29 h=>
 ae (aq (aI y25==some false) (pu (bin Tryz.prog .neq 3 dn y29) h) h) fun y30 h=>
 ae (match y25 with | .bool t=>some (if t then (.bool true) else y30,h)|_=>none) fun y31 h=>
 ae (some (y31,h)) fun y32 h=>
 ae (aq (aI y32==some false) (pu (aA y2 4) h) h) fun y33 h=>
 ae (aq (aI y32==some false) (bD 32 y33 h) h) fun y34 h=>
 ae (aq (aI y32==some false) (pu (aA y3 4) h) h) fun y35 h=>
 ae (aq (aI y32==some false) (bD 32 y35 h) h) fun y36 h=>
 ae (aq (aI y32==some false) (pu (bin Tryz.prog .neq 28 y34 y36) h) h) fun y37 h=>
 ae (match y32 with | .bool t=>some (if t then (.bool true) else y37,h)|_=>none) fun y38 h=>
 ae (some (y38,h)) fun y39 h=>
 ae (aq (aI y39==some false) (pu (aA y2 36) h) h) fun y40 h=>
 ae (aq (aI y39==some false) (aN y40 h) h) fun y41 h=>
 ae (aq (aI y39==some false) (pu (bG y41) h) h) fun y42 h=>
 ae (aq (aI y39==some false) (pu (aA y3 36) h) h) fun y43 h=>
 ae (aq (aI y39==some false) (aN y43 h) h) fun y44 h=>
 ae (aq (aI y39==some false) (pu (bG y44) h) h) fun y45 h=>
 ae (aq (aI y39==some false) (pu (bin Tryz.prog .neq 3 y42 y45) h) h) fun y46 h=>
 ae (match y39 with | .bool t=>some (if t then (.bool true) else y46,h)|_=>none) fun y47 h=>
 (match y47 with
 | .bool true=>
 ae (some ((.bool false),h)) fun y4_1 h=>
 some (y4_1,h)
 | .bool false=>
 ae (some ((.int .i64 0),h)) fun y5 h=>
 dX (iter (aM Tryz.prog C (partOf Tryz.f45 [1,1,0,1,0,0])) rounds (aJ 66 (up (bs [x0,x1]) [(2,y2),(3,y3),(4,y4),(5,y5),(6,y6),(7,y7),(8,y8),(9,y9),(10,y10),(11,y11),(12,y12),(13,y13),(14,y14),(15,y15),(16,y16),(17,y17),(18,y18),(19,y19),(20,y20),(21,y21),(22,y22),(23,y23),(24,y24),(25,y25),(26,cV),(27,dn),(28,y28),(29,y29),(30,y30),(31,y31),(32,y32),(33,y33),(34,y34),(35,y35),(36,y36),(37,y37),(38,y38),(39,y39),(40,y40),(41,y41),(42,y42),(43,y43),(44,y44),(45,y45),(46,y46),(47,y47)])) h) (ar Tryz.prog Tryz.f45.results.toList) (b45_6 C)
 |_=>none)
noncomputable def t45k45_4 (C:au) (x:Nat→Value) (h:aj):Out:=
 ae (some ((.bool true),h)) fun y4 h=>
 some (y4,h)
noncomputable def t45l45_11010 (C:au) (x:Nat→Value) (h:aj):Option (Ex×Env×aj):=
 ae (some ((x 5),h)) fun y48 h=>
 ae (pu (aA (x 2) 36) h) fun y49 h=>
 ae (aN y49 h) fun y50 h=>
 ae (pu (bG y50) h) fun y51 h=>
 ae (pu (bin Tryz.prog .lss 3 y48 y51) h) fun y52 h=>
 (match y52 with
 | .bool true=>
 ae (pu (aA (x 2) 36) h) fun y55 h=>
 ae (aN y55 h) fun y56 h=>
 ae (some ((x 5),h)) fun y57 h=>
 ae (pu (bB 32 y56 y57) h) fun y58 h=>
 ae (bD 32 y58 h) fun y59 h=>
 ae (pu (aA (x 3) 36) h) fun y60 h=>
 ae (aN y60 h) fun y61 h=>
 ae (some ((x 5),h)) fun y62 h=>
 ae (pu (bB 32 y61 y62) h) fun y63 h=>
 ae (bD 32 y63 h) fun y64 h=>
 ae (pu (bin Tryz.prog .neq 28 y59 y64) h) fun y65 h=>
 (match y65 with
 | .bool true=>
 ae (some ((.bool false),h)) fun y4 h=>
 some (.ret,(aJ 66 (up x [(4,y4),(48,y48),(49,y49),(50,y50),(51,y51),(52,y52),(55,y55),(56,y56),(57,y57),(58,y58),(59,y59),(60,y60),(61,y61),(62,y62),(63,y63),(64,y64),(65,y65)])),h)
 | .bool false=>
 ae (some ((x 5),h)) fun eJ h=>
 ae (pu (bin Tryz.prog .add 3 eJ (.int .i64 1)) h) fun eN h=>
 ae (some (eN,h)) fun y5 h=>
 some (.normal,(aJ 66 (up x [(5,y5),(48,y48),(49,y49),(50,y50),(51,y51),(52,y52),(53,eJ),(54,eN),(55,y55),(56,y56),(57,y57),(58,y58),(59,y59),(60,y60),(61,y61),(62,y62),(63,y63),(64,y64),(65,y65)])),h)
 |_=>none)
 | .bool false=>
 some (.exit 0,(aJ 66 (up x [(48,y48),(49,y49),(50,y50),(51,y51),(52,y52)])),h)
 |_=>none)
theorem t45_eq (C:au) (x0 x1:Value) (h:aj):bf Tryz.prog C Tryz.f45 [x0,x1] h=t45 C x0 x1 h:=
 (aL Tryz.prog C Tryz.f45 [x0,x1] h (by kernel_rfl)).trans (by kernel_rfl)
theorem t45k45_4_eq (C:au) (x:Nat→Value) (h:aj):k45_4 C (aJ 66 x) h=t45k45_4 C x h:=
 bg (b:=(partOf Tryz.f45 [1,1,1])) (kE:=(ar Tryz.prog Tryz.f45.results.toList)) (rE:=(ar Tryz.prog Tryz.f45.results.toList)) (xE:=(fun _ _ _=>none)) (T:=t45k45_4 C) (fun x h=>by kernel_rfl) x h
theorem t45l45_11010_eq (C:au) (x:Nat→Value) (h:aj):aM Tryz.prog C (partOf Tryz.f45 [1,1,0,1,0,0]) (aJ 66 x) h=t45l45_11010 C x h:=
 bn (T:=t45l45_11010 C) (fun x h=>by kernel_rfl) x h
noncomputable def t56 (C:au) (x0 x1:Value) (h:aj):Out:=
 ae (box x0 h) fun y2 h=>
 ae (box x1 h) fun y3 h=>
 ae (some ((.bool false),h)) fun y4 h=>
 ae (pu (aA y2 0) h) fun y5 h=>
 ae (aN y5 h) fun y6 h=>
 ae (pu (aA y3 0) h) fun y7 h=>
 ae (aN y7 h) fun y8 h=>
 ae (pu (bin Tryz.prog .eql 3 y6 y8) h) fun y9 h=>
 ae (some (y9,h)) fun y10 h=>
 ae (aq (aI y10==some true) (pu (aA y2 1) h) h) fun y11 h=>
 ae (aq (aI y10==some true) (aN y11 h) h) fun y12 h=>
 ae (aq (aI y10==some true) (pu (aA y3 1) h) h) fun y13 h=>
 ae (aq (aI y10==some true) (aN y13 h) h) fun y14 h=>
 ae (aq (aI y10==some true) (pu (bin Tryz.prog .eql 3 y12 y14) h) h) fun y15 h=>
 ae (match y10 with | .bool t=>some (if t then y15 else (.bool false),h)|_=>none) fun y16 h=>
 ae (some (y16,h)) fun y17 h=>
 ae (aq (aI y17==some true) (pu (aA y2 2) h) h) fun y18 h=>
 ae (aq (aI y17==some true) (aN y18 h) h) fun y19 h=>
 ae (aq (aI y17==some true) (pu (aA y3 2) h) h) fun y20 h=>
 ae (aq (aI y17==some true) (aN y20 h) h) fun y21 h=>
 ae (aq (aI y17==some true) (pu (bin Tryz.prog .eql 3 y19 y21) h) h) fun y22 h=>
 ae (match y17 with | .bool t=>some (if t then y22 else (.bool false),h)|_=>none) fun y23 h=>
 ae (some (y23,h)) fun y24 h=>
 ae (aq (aI y24==some true) (pu (aA y2 3) h) h) fun y25 h=>
 ae (aq (aI y24==some true) (aN y25 h) h) fun cV h=>
 ae (aq (aI y24==some true) (pu (aA y3 3) h) h) fun dn h=>
 ae (aq (aI y24==some true) (aN dn h) h) fun y28 h=>
 ae (aq (aI y24==some true) (pu (bin Tryz.prog .eql 3 cV y28) h) h) fun y29 h=>
 ae (match y24 with | .bool t=>some (if t then y29 else (.bool false),h)|_=>none) fun y30 h=>
 ae (some (y30,h)) fun y31 h=>
 ae (aq (aI y31==some true) (pu (aA y2 4) h) h) fun y32 h=>
 ae (aq (aI y31==some true) (bD 32 y32 h) h) fun y33 h=>
 ae (aq (aI y31==some true) (pu (aA y3 4) h) h) fun y34 h=>
 ae (aq (aI y31==some true) (bD 32 y34 h) h) fun y35 h=>
 ae (aq (aI y31==some true) (pu (bin Tryz.prog .eql 28 y33 y35) h) h) fun y36 h=>
 ae (match y31 with | .bool t=>some (if t then y36 else (.bool false),h)|_=>none) fun y37 h=>
 ae (some (y37,h)) fun y38 h=>
 ae (aq (aI y38==some true) (pu (aA y2 36) h) h) fun y39 h=>
 ae (aq (aI y38==some true) (aN y39 h) h) fun y40 h=>
 ae (aq (aI y38==some true) (pu (aA y3 36) h) h) fun y41 h=>
 ae (aq (aI y38==some true) (aN y41 h) h) fun y42 h=>
 ae (aq (aI y38==some true) (C 86 [y40,y42] h) h) fun y43 h=>
 ae (match y38 with | .bool t=>some (if t then y43 else (.bool false),h)|_=>none) fun y44 h=>
 ae (some (y44,h)) fun y4_1 h=>
 some (y4_1,h)
theorem t56_eq (C:au) (x0 x1:Value) (h:aj):bf Tryz.prog C Tryz.f56 [x0,x1] h=t56 C x0 x1 h:=
 (aL Tryz.prog C Tryz.f56 [x0,x1] h (by kernel_rfl)).trans (by kernel_rfl)
noncomputable def t15 (C:au) (x0 x1:Value) (h:aj):Out:=
 ae (box x0 h) fun y2 h=>
 ae (box x1 h) fun y3 h=>
 ae (some ((.bool false),h)) fun y4 h=>
 ae (pu (aA y2 0) h) fun y5 h=>
 ae (aN y5 h) fun y6 h=>
 ae (pu (aA y3 0) h) fun y7 h=>
 ae (aN y7 h) fun y8 h=>
 ae (pu (bin Tryz.prog .neq 24 y6 y8) h) fun y9 h=>
 ae (some (y9,h)) fun y10 h=>
 ae (aq (aI y10==some false) (pu (aA y2 1) h) h) fun y11 h=>
 ae (aq (aI y10==some false) (aN y11 h) h) fun y12 h=>
 ae (aq (aI y10==some false) (pu (aA y3 1) h) h) fun y13 h=>
 ae (aq (aI y10==some false) (aN y13 h) h) fun y14 h=>
 ae (aq (aI y10==some false) (pu (bin Tryz.prog .neq 3 y12 y14) h) h) fun y15 h=>
 ae (match y10 with | .bool t=>some (if t then (.bool true) else y15,h)|_=>none) fun y16 h=>
 ae (some (y16,h)) fun y17 h=>
 ae (aq (aI y17==some false) (pu (aA y2 2) h) h) fun y18 h=>
 ae (aq (aI y17==some false) (aN y18 h) h) fun y19 h=>
 ae (aq (aI y17==some false) (pu (aA y3 2) h) h) fun y20 h=>
 ae (aq (aI y17==some false) (aN y20 h) h) fun y21 h=>
 ae (aq (aI y17==some false) (pu (bin Tryz.prog .neq 3 y19 y21) h) h) fun y22 h=>
 ae (match y17 with | .bool t=>some (if t then (.bool true) else y22,h)|_=>none) fun y23 h=>
 ae (some (y23,h)) fun y24 h=>
 ae (aq (aI y24==some false) (pu (aA y2 3) h) h) fun y25 h=>
 ae (aq (aI y24==some false) (aN y25 h) h) fun cV h=>
 ae (aq (aI y24==some false) (pu (aA y3 3) h) h) fun dn h=>
 ae (aq (aI y24==some false) (aN dn h) h) fun y28 h=>
 ae (aq (aI y24==some false) (pu (bin Tryz.prog .neq 25 cV y28) h) h) fun y29 h=>
 ae (match y24 with | .bool t=>some (if t then (.bool true) else y29,h)|_=>none) fun y30 h=>
 ae (some (y30,h)) fun y31 h=>
 ae (aq (aI y31==some false) (pu (aA y2 4) h) h) fun y32 h=>
 ae (aq (aI y31==some false) (aN y32 h) h) fun y33 h=>
 ae (aq (aI y31==some false) (pu (aA y3 4) h) h) fun y34 h=>
 ae (aq (aI y31==some false) (aN y34 h) h) fun y35 h=>
 ae (aq (aI y31==some false) (pu (bin Tryz.prog .neq 3 y33 y35) h) h) fun y36 h=>
 ae (match y31 with | .bool t=>some (if t then (.bool true) else y36,h)|_=>none) fun y37 h=>
 ae (some (y37,h)) fun y38 h=>
 ae (aq (aI y38==some false) (pu (aA y2 5) h) h) fun y39 h=>
 ae (aq (aI y38==some false) (aN y39 h) h) fun y40 h=>
 ae (aq (aI y38==some false) (pu (aA y3 5) h) h) fun y41 h=>
 ae (aq (aI y38==some false) (aN y41 h) h) fun y42 h=>
 ae (aq (aI y38==some false) (pu (bin Tryz.prog .neq 3 y40 y42) h) h) fun y43 h=>
 ae (match y38 with | .bool t=>some (if t then (.bool true) else y43,h)|_=>none) fun y44 h=>
 ae (some (y44,h)) fun y45 h=>
 ae (aq (aI y45==some false) (pu (aA y2 6) h) h) fun y46 h=>
 ae (aq (aI y45==some false) (aN y46 h) h) fun y47 h=>
 ae (aq (aI y45==some false) (pu (aA y3 6) h) h) fun y48 h=>
 ae (aq (aI y45==some false) (aN y48 h) h) fun y49 h=>
 ae (aq (aI y45==some false) (C 43 [y47,y49] h) h) fun y50 h=>
 ae (aq (aI y45==some false) (pu (unA .not y50) h) h) fun y51 h=>
 ae (match y45 with | .bool t=>some (if t then (.bool true) else y51,h)|_=>none) fun y52 h=>
 (match y52 with
 | .bool true=>
 ae (some ((.bool false),h)) fun y4_1 h=>
 some (y4_1,h)
 | .bool false=>
 ae (pu (aA y2 7) h) fun eJ h=>
 ae (aN eJ h) fun eN h=>
 ae (cvBS eN h) fun y55 h=>
 ae (pu (aA y3 7) h) fun y56 h=>
 ae (aN y56 h) fun y57 h=>
 ae (cvBS y57 h) fun y58 h=>
 ae (pu (bin Tryz.prog .neq 9 y55 y58) h) fun y59 h=>
 ae (some (y59,h)) fun y60 h=>
 ae (aq (aI y60==some false) (pu (aA y2 8) h) h) fun y61 h=>
 ae (aq (aI y60==some false) (aN y61 h) h) fun y62 h=>
 ae (aq (aI y60==some false) (cvBS y62 h) h) fun y63 h=>
 ae (aq (aI y60==some false) (pu (aA y3 8) h) h) fun y64 h=>
 ae (aq (aI y60==some false) (aN y64 h) h) fun y65 h=>
 ae (aq (aI y60==some false) (cvBS y65 h) h) fun y66 h=>
 ae (aq (aI y60==some false) (pu (bin Tryz.prog .neq 9 y63 y66) h) h) fun y67 h=>
 ae (match y60 with | .bool t=>some (if t then (.bool true) else y67,h)|_=>none) fun y68 h=>
 ae (some (y68,h)) fun y69 h=>
 ae (aq (aI y69==some false) (pu (aA y2 9) h) h) fun y70 h=>
 ae (aq (aI y69==some false) (aN y70 h) h) fun y71 h=>
 ae (aq (aI y69==some false) (pu (aA y3 9) h) h) fun y72 h=>
 ae (aq (aI y69==some false) (aN y72 h) h) fun y73 h=>
 ae (aq (aI y69==some false) (pu (bin Tryz.prog .neq 3 y71 y73) h) h) fun y74 h=>
 ae (match y69 with | .bool t=>some (if t then (.bool true) else y74,h)|_=>none) fun y75 h=>
 ae (some (y75,h)) fun y76 h=>
 ae (aq (aI y76==some false) (pu (aA y2 10) h) h) fun y77 h=>
 ae (aq (aI y76==some false) (bD 32 y77 h) h) fun y78 h=>
 ae (aq (aI y76==some false) (pu (aA y3 10) h) h) fun y79 h=>
 ae (aq (aI y76==some false) (bD 32 y79 h) h) fun y80 h=>
 ae (aq (aI y76==some false) (pu (bin Tryz.prog .neq 28 y78 y80) h) h) fun y81 h=>
 ae (match y76 with | .bool t=>some (if t then (.bool true) else y81,h)|_=>none) fun y82 h=>
 ae (some (y82,h)) fun y83 h=>
 ae (aq (aI y83==some false) (pu (aA y2 42) h) h) fun y84 h=>
 ae (aq (aI y83==some false) (aN y84 h) h) fun y85 h=>
 ae (aq (aI y83==some false) (pu (aA y3 42) h) h) fun y86 h=>
 ae (aq (aI y83==some false) (aN y86 h) h) fun y87 h=>
 ae (aq (aI y83==some false) (C 44 [y85,y87] h) h) fun y88 h=>
 ae (aq (aI y83==some false) (pu (unA .not y88) h) h) fun y89 h=>
 ae (match y83 with | .bool t=>some (if t then (.bool true) else y89,h)|_=>none) fun y90 h=>
 ae (some (y90,h)) fun y91 h=>
 ae (aq (aI y91==some false) (pu (aA y2 43) h) h) fun y92 h=>
 ae (aq (aI y91==some false) (aN y92 h) h) fun y93 h=>
 ae (aq (aI y91==some false) (pu (aA y3 43) h) h) fun y94 h=>
 ae (aq (aI y91==some false) (aN y94 h) h) fun y95 h=>
 ae (aq (aI y91==some false) (pu (bin Tryz.prog .neq 4 y93 y95) h) h) fun y96 h=>
 ae (match y91 with | .bool t=>some (if t then (.bool true) else y96,h)|_=>none) fun y97 h=>
 (match y97 with
 | .bool true=>
 ae (some ((.bool false),h)) fun y4_1 h=>
 some (y4_1,h)
 | .bool false=>
 ae (pu (aA y2 44) h) fun y98 h=>
 ae (bD 32 y98 h) fun y99 h=>
 ae (pu (aA y3 44) h) fun y100 h=>
 ae (bD 32 y100 h) fun y101 h=>
 ae (pu (bin Tryz.prog .eql 28 y99 y101) h) fun y102 h=>
 ae (some (y102,h)) fun y103 h=>
 ae (aq (aI y103==some true) (pu (aA y2 76) h) h) fun y104 h=>
 ae (aq (aI y103==some true) (bD 37 y104 h) h) fun y105 h=>
 ae (aq (aI y103==some true) (pu (aA y3 76) h) h) fun y106 h=>
 ae (aq (aI y103==some true) (bD 37 y106 h) h) fun y107 h=>
 ae (aq (aI y103==some true) (C 45 [y105,y107] h) h) fun y108 h=>
 ae (match y103 with | .bool t=>some (if t then y108 else (.bool false),h)|_=>none) fun y109 h=>
 ae (some (y109,h)) fun y110 h=>
 ae (aq (aI y110==some true) (pu (aA y2 113) h) h) fun y111 h=>
 ae (aq (aI y110==some true) (pu (aA y111 0) h) h) fun y112 h=>
 ae (aq (aI y110==some true) (aN y112 h) h) fun y113 h=>
 ae (aq (aI y110==some true) (pu (aA y3 113) h) h) fun y114 h=>
 ae (aq (aI y110==some true) (pu (aA y114 0) h) h) fun y115 h=>
 ae (aq (aI y110==some true) (aN y115 h) h) fun y116 h=>
 ae (aq (aI y110==some true) (pu (bin Tryz.prog .eql 3 y113 y116) h) h) fun y117 h=>
 ae (match y110 with | .bool t=>some (if t then y117 else (.bool false),h)|_=>none) fun y118 h=>
 ae (some (y118,h)) fun y119 h=>
 ae (aq (aI y119==some true) (pu (aA y2 113) h) h) fun y120 h=>
 ae (aq (aI y119==some true) (pu (aA y120 1) h) h) fun y121 h=>
 ae (aq (aI y119==some true) (aN y121 h) h) fun y122 h=>
 ae (aq (aI y119==some true) (cvBS y122 h) h) fun y123 h=>
 ae (aq (aI y119==some true) (pu (aA y3 113) h) h) fun y124 h=>
 ae (aq (aI y119==some true) (pu (aA y124 1) h) h) fun y125 h=>
 ae (aq (aI y119==some true) (aN y125 h) h) fun y126 h=>
 ae (aq (aI y119==some true) (cvBS y126 h) h) fun y127 h=>
 ae (aq (aI y119==some true) (pu (bin Tryz.prog .eql 9 y123 y127) h) h) fun y128 h=>
 ae (match y119 with | .bool t=>some (if t then y128 else (.bool false),h)|_=>none) fun y129 h=>
 ae (some (y129,h)) fun y130 h=>
 ae (aq (aI y130==some true) (pu (aA y2 115) h) h) fun y131 h=>
 ae (aq (aI y130==some true) (aN y131 h) h) fun y132 h=>
 ae (aq (aI y130==some true) (pu (aA y3 115) h) h) fun y133 h=>
 ae (aq (aI y130==some true) (aN y133 h) h) fun y134 h=>
 ae (aq (aI y130==some true) (pu (bin Tryz.prog .eql 35 y132 y134) h) h) fun y135 h=>
 ae (match y130 with | .bool t=>some (if t then y135 else (.bool false),h)|_=>none) fun y136 h=>
 ae (some (y136,h)) fun y4_1 h=>
 some (y4_1,h)
 |_=>none)
 |_=>none)
theorem t15_eq (C:au) (x0 x1:Value) (h:aj):bf Tryz.prog C Tryz.f15 [x0,x1] h=t15 C x0 x1 h:=
 (aL Tryz.prog C Tryz.f15 [x0,x1] h (by kernel_rfl)).trans (by kernel_rfl)
noncomputable def t22 (C:au) (x0 x1:Value) (h:aj):Out:=
 ae (box x0 h) fun y2 h=>
 ae (box x1 h) fun y3 h=>
 ae (some ((.bool false),h)) fun y4 h=>
 ae (pu (aA y2 0) h) fun y5 h=>
 ae (aN y5 h) fun y6 h=>
 ae (pu (aA y3 0) h) fun y7 h=>
 ae (aN y7 h) fun y8 h=>
 ae (pu (bin Tryz.prog .eql 24 y6 y8) h) fun y9 h=>
 ae (some (y9,h)) fun y10 h=>
 ae (aq (aI y10==some true) (pu (aA y2 1) h) h) fun y11 h=>
 ae (aq (aI y10==some true) (aN y11 h) h) fun y12 h=>
 ae (aq (aI y10==some true) (pu (aA y3 1) h) h) fun y13 h=>
 ae (aq (aI y10==some true) (aN y13 h) h) fun y14 h=>
 ae (aq (aI y10==some true) (pu (bin Tryz.prog .eql 3 y12 y14) h) h) fun y15 h=>
 ae (match y10 with | .bool t=>some (if t then y15 else (.bool false),h)|_=>none) fun y16 h=>
 ae (some (y16,h)) fun y17 h=>
 ae (aq (aI y17==some true) (pu (aA y2 2) h) h) fun y18 h=>
 ae (aq (aI y17==some true) (aN y18 h) h) fun y19 h=>
 ae (aq (aI y17==some true) (pu (aA y3 2) h) h) fun y20 h=>
 ae (aq (aI y17==some true) (aN y20 h) h) fun y21 h=>
 ae (aq (aI y17==some true) (pu (bin Tryz.prog .eql 3 y19 y21) h) h) fun y22 h=>
 ae (match y17 with | .bool t=>some (if t then y22 else (.bool false),h)|_=>none) fun y23 h=>
 ae (some (y23,h)) fun y24 h=>
 ae (aq (aI y24==some true) (pu (aA y2 3) h) h) fun y25 h=>
 ae (aq (aI y24==some true) (aN y25 h) h) fun cV h=>
 ae (aq (aI y24==some true) (pu (aA y3 3) h) h) fun dn h=>
 ae (aq (aI y24==some true) (aN dn h) h) fun y28 h=>
 ae (aq (aI y24==some true) (pu (bin Tryz.prog .eql 25 cV y28) h) h) fun y29 h=>
 ae (match y24 with | .bool t=>some (if t then y29 else (.bool false),h)|_=>none) fun y30 h=>
 ae (some (y30,h)) fun y31 h=>
 ae (aq (aI y31==some true) (pu (aA y2 4) h) h) fun y32 h=>
 ae (aq (aI y31==some true) (aN y32 h) h) fun y33 h=>
 ae (aq (aI y31==some true) (pu (aA y3 4) h) h) fun y34 h=>
 ae (aq (aI y31==some true) (aN y34 h) h) fun y35 h=>
 ae (aq (aI y31==some true) (pu (bin Tryz.prog .eql 3 y33 y35) h) h) fun y36 h=>
 ae (match y31 with | .bool t=>some (if t then y36 else (.bool false),h)|_=>none) fun y37 h=>
 ae (some (y37,h)) fun y38 h=>
 ae (aq (aI y38==some true) (pu (aA y2 5) h) h) fun y39 h=>
 ae (aq (aI y38==some true) (aN y39 h) h) fun y40 h=>
 ae (aq (aI y38==some true) (pu (aA y3 5) h) h) fun y41 h=>
 ae (aq (aI y38==some true) (aN y41 h) h) fun y42 h=>
 ae (aq (aI y38==some true) (pu (bin Tryz.prog .eql 3 y40 y42) h) h) fun y43 h=>
 ae (match y38 with | .bool t=>some (if t then y43 else (.bool false),h)|_=>none) fun y44 h=>
 ae (some (y44,h)) fun y45 h=>
 ae (aq (aI y45==some true) (pu (aA y2 6) h) h) fun y46 h=>
 ae (aq (aI y45==some true) (aN y46 h) h) fun y47 h=>
 ae (aq (aI y45==some true) (pu (aA y3 6) h) h) fun y48 h=>
 ae (aq (aI y45==some true) (aN y48 h) h) fun y49 h=>
 ae (aq (aI y45==some true) (C 53 [y47,y49] h) h) fun y50 h=>
 ae (match y45 with | .bool t=>some (if t then y50 else (.bool false),h)|_=>none) fun y51 h=>
 ae (some (y51,h)) fun y52 h=>
 ae (aq (aI y52==some true) (pu (aA y2 7) h) h) fun eJ h=>
 ae (aq (aI y52==some true) (aN eJ h) h) fun eN h=>
 ae (aq (aI y52==some true) (pu (aA y3 7) h) h) fun y55 h=>
 ae (aq (aI y52==some true) (aN y55 h) h) fun y56 h=>
 ae (aq (aI y52==some true) (C 54 [eN,y56] h) h) fun y57 h=>
 ae (match y52 with | .bool t=>some (if t then y57 else (.bool false),h)|_=>none) fun y58 h=>
 ae (some (y58,h)) fun y59 h=>
 ae (aq (aI y59==some true) (pu (aA y2 8) h) h) fun y60 h=>
 ae (aq (aI y59==some true) (aN y60 h) h) fun y61 h=>
 ae (aq (aI y59==some true) (pu (aA y3 8) h) h) fun y62 h=>
 ae (aq (aI y59==some true) (aN y62 h) h) fun y63 h=>
 ae (aq (aI y59==some true) (C 54 [y61,y63] h) h) fun y64 h=>
 ae (match y59 with | .bool t=>some (if t then y64 else (.bool false),h)|_=>none) fun y65 h=>
 ae (some (y65,h)) fun y66 h=>
 ae (aq (aI y66==some true) (pu (aA y2 9) h) h) fun y67 h=>
 ae (aq (aI y66==some true) (aN y67 h) h) fun y68 h=>
 ae (aq (aI y66==some true) (pu (aA y3 9) h) h) fun y69 h=>
 ae (aq (aI y66==some true) (aN y69 h) h) fun y70 h=>
 ae (aq (aI y66==some true) (pu (bin Tryz.prog .eql 3 y68 y70) h) h) fun y71 h=>
 ae (match y66 with | .bool t=>some (if t then y71 else (.bool false),h)|_=>none) fun y72 h=>
 ae (some (y72,h)) fun y73 h=>
 ae (aq (aI y73==some true) (pu (aA y2 10) h) h) fun y74 h=>
 ae (aq (aI y73==some true) (bD 32 y74 h) h) fun y75 h=>
 ae (aq (aI y73==some true) (pu (aA y3 10) h) h) fun y76 h=>
 ae (aq (aI y73==some true) (bD 32 y76 h) h) fun y77 h=>
 ae (aq (aI y73==some true) (pu (bin Tryz.prog .eql 28 y75 y77) h) h) fun y78 h=>
 ae (match y73 with | .bool t=>some (if t then y78 else (.bool false),h)|_=>none) fun y79 h=>
 ae (some (y79,h)) fun y80 h=>
 ae (aq (aI y80==some true) (pu (aA y2 42) h) h) fun y81 h=>
 ae (aq (aI y80==some true) (aN y81 h) h) fun y82 h=>
 ae (aq (aI y80==some true) (pu (aA y3 42) h) h) fun y83 h=>
 ae (aq (aI y80==some true) (aN y83 h) h) fun y84 h=>
 ae (aq (aI y80==some true) (C 55 [y82,y84] h) h) fun y85 h=>
 ae (match y80 with | .bool t=>some (if t then y85 else (.bool false),h)|_=>none) fun y86 h=>
 ae (some (y86,h)) fun y87 h=>
 ae (aq (aI y87==some true) (pu (aA y2 43) h) h) fun y88 h=>
 ae (aq (aI y87==some true) (aN y88 h) h) fun y89 h=>
 ae (aq (aI y87==some true) (pu (aA y3 43) h) h) fun y90 h=>
 ae (aq (aI y87==some true) (aN y90 h) h) fun y91 h=>
 ae (aq (aI y87==some true) (pu (bin Tryz.prog .eql 4 y89 y91) h) h) fun y92 h=>
 ae (match y87 with | .bool t=>some (if t then y92 else (.bool false),h)|_=>none) fun y93 h=>
 ae (some (y93,h)) fun y94 h=>
 ae (aq (aI y94==some true) (pu (aA y2 44) h) h) fun y95 h=>
 ae (aq (aI y94==some true) (bD 32 y95 h) h) fun y96 h=>
 ae (aq (aI y94==some true) (pu (aA y3 44) h) h) fun y97 h=>
 ae (aq (aI y94==some true) (bD 32 y97 h) h) fun y98 h=>
 ae (aq (aI y94==some true) (pu (bin Tryz.prog .eql 28 y96 y98) h) h) fun y99 h=>
 ae (match y94 with | .bool t=>some (if t then y99 else (.bool false),h)|_=>none) fun y100 h=>
 ae (some (y100,h)) fun y101 h=>
 ae (aq (aI y101==some true) (pu (aA y2 76) h) h) fun y102 h=>
 ae (aq (aI y101==some true) (bD 37 y102 h) h) fun y103 h=>
 ae (aq (aI y101==some true) (pu (aA y3 76) h) h) fun y104 h=>
 ae (aq (aI y101==some true) (bD 37 y104 h) h) fun y105 h=>
 ae (aq (aI y101==some true) (C 56 [y103,y105] h) h) fun y106 h=>
 ae (match y101 with | .bool t=>some (if t then y106 else (.bool false),h)|_=>none) fun y107 h=>
 ae (some (y107,h)) fun y108 h=>
 ae (aq (aI y108==some true) (pu (aA y2 113) h) h) fun y109 h=>
 ae (aq (aI y108==some true) (pu (aA y109 0) h) h) fun y110 h=>
 ae (aq (aI y108==some true) (aN y110 h) h) fun y111 h=>
 ae (aq (aI y108==some true) (pu (aA y3 113) h) h) fun y112 h=>
 ae (aq (aI y108==some true) (pu (aA y112 0) h) h) fun y113 h=>
 ae (aq (aI y108==some true) (aN y113 h) h) fun y114 h=>
 ae (aq (aI y108==some true) (pu (bin Tryz.prog .eql 3 y111 y114) h) h) fun y115 h=>
 ae (match y108 with | .bool t=>some (if t then y115 else (.bool false),h)|_=>none) fun y116 h=>
 ae (some (y116,h)) fun y117 h=>
 ae (aq (aI y117==some true) (pu (aA y2 113) h) h) fun y118 h=>
 ae (aq (aI y117==some true) (pu (aA y118 1) h) h) fun y119 h=>
 ae (aq (aI y117==some true) (aN y119 h) h) fun y120 h=>
 ae (aq (aI y117==some true) (pu (aA y3 113) h) h) fun y121 h=>
 ae (aq (aI y117==some true) (pu (aA y121 1) h) h) fun y122 h=>
 ae (aq (aI y117==some true) (aN y122 h) h) fun y123 h=>
 ae (aq (aI y117==some true) (C 54 [y120,y123] h) h) fun y124 h=>
 ae (match y117 with | .bool t=>some (if t then y124 else (.bool false),h)|_=>none) fun y125 h=>
 ae (some (y125,h)) fun y126 h=>
 ae (aq (aI y126==some true) (pu (aA y2 115) h) h) fun y127 h=>
 ae (aq (aI y126==some true) (aN y127 h) h) fun y128 h=>
 ae (aq (aI y126==some true) (pu (aA y3 115) h) h) fun y129 h=>
 ae (aq (aI y126==some true) (aN y129 h) h) fun y130 h=>
 ae (aq (aI y126==some true) (pu (bin Tryz.prog .eql 35 y128 y130) h) h) fun y131 h=>
 ae (match y126 with | .bool t=>some (if t then y131 else (.bool false),h)|_=>none) fun y132 h=>
 ae (some (y132,h)) fun y4_1 h=>
 some (y4_1,h)
theorem t22_eq (C:au) (x0 x1:Value) (h:aj):bf Tryz.prog C Tryz.f22 [x0,x1] h=t22 C x0 x1 h:=
 (aL Tryz.prog C Tryz.f22 [x0,x1] h (by kernel_rfl)).trans (by kernel_rfl)
noncomputable def t69 (C:au) (x0:Value) (h:aj):Out:=
 ae (some ((.slice none 0 0),h)) fun y2 h=>
 ae (some (x0,h)) fun y3 h=>
 ae (pu (bin Tryz.prog .eql 22 y3 (.slice none 0 0)) h) fun y4 h=>
 (match y4 with
 | .bool true=>
 ae (some ((.slice none 0 0),h)) fun y2_1 h=>
 some (y2_1,h)
 | .bool false=>
 ae (bslR 1 (.int .u8 0) 0 [] h) fun y5 h=>
 ae (some (x0,h)) fun y6 h=>
 ae (cl 1 1 y5 y6 h) fun y7 h=>
 ae (some (y7,h)) fun y2_1 h=>
 some (y2_1,h)
 |_=>none)
theorem t69_eq (C:au) (x0:Value) (h:aj):bf Tryz.prog C Tryz.f69 [x0] h=t69 C x0 h:=
 (aL Tryz.prog C Tryz.f69 [x0] h (by kernel_rfl)).trans (by kernel_rfl)
noncomputable def k9_42 (C:au) (e:Env) (h:aj):Out:=aT Tryz.prog C (partOf Tryz.f9 [1,1,1,1,1,1,1,1,1,1,1]) e h (ar Tryz.prog Tryz.f9.results.toList) (ar Tryz.prog Tryz.f9.results.toList) (fun _ _ _=>none)
noncomputable def b9_44 (C:au) (i:Nat) (e:Env) (h:aj):Out:=if i=10 then (k9_42 C) e h else (fun _ _ _=>none) i e h
noncomputable def t9l9_111111010 (C:au) (x:Nat→Value) (h:aj):Option (Ex×Env×aj):=
 ae (some ((x 9),h)) fun y64 h=>
 ae (pu (aA (x 7) 7) h) fun y65 h=>
 ae (aN y65 h) fun y66 h=>
 ae (pu (bG y66) h) fun y67 h=>
 ae (pu (bin Tryz.prog .lss 3 y64 y67) h) fun y68 h=>
 (match y68 with
 | .bool true=>
 ae (pu (aA (x 7) 7) h) fun y71 h=>
 ae (aN y71 h) fun y72 h=>
 ae (some ((x 9),h)) fun y73 h=>
 ae (pu (bB 1 y72 y73) h) fun y74 h=>
 ae (aN y74 h) fun y75 h=>
 ae (pu (bin Tryz.prog .xor 5 y75 (.int .u8 255)) h) fun y76 h=>
 ae (pu (bB 1 y72 y73) h) fun y77 h=>
 ae (bw 1 y77 y76 h) fun _ h=>
 ae (some ((x 9),h)) fun y69 h=>
 ae (pu (bin Tryz.prog .add 3 y69 (.int .i64 1)) h) fun y70 h=>
 ae (some (y70,h)) fun y9 h=>
 some (.normal,(aJ 148 (up x [(9,y9),(64,y64),(65,y65),(66,y66),(67,y67),(68,y68),(69,y69),(70,y70),(71,y71),(72,y72),(73,y73),(74,y74),(75,y75),(76,y76),(77,y77)])),h)
 | .bool false=>
 some (.exit 2,(aJ 148 (up x [(64,y64),(65,y65),(66,y66),(67,y67),(68,y68)])),h)
 |_=>none)
noncomputable def eA (C:au) (x:Nat→Value) (h:aj):Option (Ex×Env×aj):=
 ae (some ((x 13),h)) fun y126 h=>
 ae (pu (aA (x 7) 113) h) fun y127 h=>
 ae (pu (aA y127 1) h) fun y128 h=>
 ae (aN y128 h) fun y129 h=>
 ae (pu (bG y129) h) fun y130 h=>
 ae (pu (bin Tryz.prog .lss 3 y126 y130) h) fun y131 h=>
 (match y131 with
 | .bool true=>
 ae (pu (aA (x 7) 113) h) fun y134 h=>
 ae (pu (aA y134 1) h) fun y135 h=>
 ae (aN y135 h) fun y136 h=>
 ae (some ((x 13),h)) fun y137 h=>
 ae (pu (bB 1 y136 y137) h) fun y138 h=>
 ae (aN y138 h) fun y139 h=>
 ae (pu (bin Tryz.prog .xor 5 y139 (.int .u8 255)) h) fun y140 h=>
 ae (pu (bB 1 y136 y137) h) fun y141 h=>
 ae (bw 1 y141 y140 h) fun _ h=>
 ae (some ((x 13),h)) fun y132 h=>
 ae (pu (bin Tryz.prog .add 3 y132 (.int .i64 1)) h) fun y133 h=>
 ae (some (y133,h)) fun y13 h=>
 some (.normal,(aJ 148 (up x [(13,y13),(126,y126),(127,y127),(128,y128),(129,y129),(130,y130),(131,y131),(132,y132),(133,y133),(134,y134),(135,y135),(136,y136),(137,y137),(138,y138),(139,y139),(140,y140),(141,y141)])),h)
 | .bool false=>
 some (.exit 10,(aJ 148 (up x [(126,y126),(127,y127),(128,y128),(129,y129),(130,y130),(131,y131)])),h)
 |_=>none)
theorem t9l9_1111111111010_eq (C:au) (x:Nat→Value) (h:aj):aM Tryz.prog C (partOf Tryz.f9 [1,1,1,1,1,1,1,1,1,1,0,1,0,0]) (aJ 148 x) h=eA C x h:=
 bn (T:=eA C) (fun x h=>by kernel_rfl) x h
end Go.Proofs.YtjghlcdidopcpaaGreatDoor

namespace Go.Proofs.YtjghlcdidopcpaaGreatDoor
open Go Go.Abs
abbrev aH (n:Nat):Value := .int .i64 (n:Int)
theorem add3 {a b:Nat} (h:a+b≤9223372036854775807):bin Tryz.prog .add 3 (aH a) (.int .i64 (b:Int))=some (aH (a+b)):=by
 unfold aH;rw [bin_add,wrap_i64 (by omega) (by omega),Int.natCast_add]
theorem ee {a:Nat} (h:a+1≤9223372036854775807):bin Tryz.prog .add 3 (aH a) (.int .i64 1)=some (aH (a+1)):=add3 h
theorem dg (a b:Nat):bin Tryz.prog .lss 3 (aH a) (aH b)=some (.bool (decide (a<b))):=by
 rw [aC]
 congr 2
 by_cases e:a<b
 ·rw [decide_eq_true e,decide_eq_true (by omega)]
 ·rw [decide_eq_false e,decide_eq_false (by omega)]
theorem neq3 (a b:Nat):bin Tryz.prog .neq 3 (aH a) (aH b)=some (.bool (!decide (a=b))):=by
 rw [ax]
 congr 2
 by_cases e:a=b
 ·subst e;simp
 ·have:(a:Int)≠b:=by omega
  rw [decide_eq_false e,bne_iff_ne.2 this];rfl
def dh (h:aj) (ks:List Kd) (v:Value) (n:Nat) (cs:List Value):Prop:=
 ∃ a c,v = .slice a n c∧(a=none→n=0)∧dV ks n cs∧(0<n → ∃ b off s k,a=some ⟨b,off,s⟩∧h.get b=some k∧off+n*ks.length≤k.length∧(k.drop off).take (n*ks.length)=cs)
def slB:Value→Option Nat
 | .slice (some a) (_+1) _=>some a.block
 |_=>none
theorem dh.bF {h h':aj} {ks:List Kd} {v:Value} {n:Nat} {cs:List Value} (x:dh h ks v n cs) {B:Nat→Prop} (k:Kept h h' B) (hB : ∀ b,slB v=some b → ¬B b):dh h' ks v n cs:=by
 obtain ⟨a,c,rfl,h1,h2,h3⟩:=x
 refine ⟨a,c,rfl,h1,h2,fun hn => ?_⟩
 obtain ⟨b,off,s,q,rfl,h4,h5⟩:=h3 hn
 obtain ⟨m,rfl⟩ : ∃ m,n=m+1:=⟨n-1,by omega⟩
 exact ⟨b,off,s,q,rfl,k.dj h4 (hB b rfl),h5⟩
theorem dh.bA {h h':aj} {ks:List Kd} {v:Value} {n:Nat} {cs:List Value} (x:dh h ks v n cs) (k:Old h h'):dh h' ks v n cs:=x.bF k (fun _ _ h=>h)
theorem dh.len {h:aj} {ks:List Kd} {v:Value} {n:Nat} {cs:List Value} (x:dh h ks v n cs):bG v=some (aH n):=by
 obtain ⟨a,c,rfl,_⟩:=x
 rfl
theorem dh.cells {h:aj} {ks:List Kd} {v:Value} {n:Nat} {cs:List Value} (x:dh h ks v n cs):cs.length=n*ks.length:=by
 obtain ⟨a,c,rfl,_,h2,_⟩:=x
 exact h2.1
theorem dh.typed {h:aj} {ks:List Kd} {v:Value} {n:Nat} {cs:List Value} (x:dh h ks v n cs):dV ks n cs:=by
 obtain ⟨a,c,rfl,_,h2,_⟩:=x
 exact h2
theorem dh.lt {h:aj} {ks:List Kd} {v:Value} {n:Nat} {cs:List Value} (x:dh h ks v n cs) {b:Nat} (hb:slB v=some b):b<h.next:=by
 obtain ⟨a,c,rfl,_,_,h3⟩:=x
 cases n with
 |zero=>cases a<;>cases hb
 |succ m=>
  obtain ⟨b',off,s,k,rfl,h4,_⟩:=h3 (by omega)
  cases hb
  exact h.bc h4
def el (z:Nat) (cs:List Value) (i:Nat):List Value:=(cs.drop (i*z)).take z
theorem mul_le {i n z:Nat} (hi:i<n):i*z+z≤n*z:=by
 have:=Nat.mul_le_mul_right z (show i+1≤n by omega)
 rw [Nat.add_mul,Nat.one_mul] at this
 exact this
theorem dh.at {h:aj} {ks:List Kd} {v:Value} {n:Nat} {cs:List Value} (x:dh h ks v n cs) {i:Nat} (hi:i<n) : ∃ b off k,slB v=some b∧bB ks.length v (aH i)=some (ptr b (off+i*ks.length))∧h.get b=some k∧off+n*ks.length≤k.length∧(k.drop (off+i*ks.length)).take ks.length=el ks.length cs i ∧
  bD ks.length (ptr b (off+i*ks.length)) h=some (.agg (el ks.length cs i).toArray,h)∧Typed ks (el ks.length cs i):=by
 obtain ⟨a,c,rfl,h1,h2,h3⟩:=x
 obtain ⟨b,off,s,k,rfl,h4,h5,h6⟩:=h3 (by omega)
 have hm:=mul_le (z:=ks.length) hi
 have hel:(k.drop (off+i*ks.length)).take ks.length=el ks.length cs i:=by
  unfold el
  rw [←h6,List.drop_take,List.take_take,List.drop_drop,Nat.min_eq_left (by omega)]
 have ht:=h2.2 i hi
 obtain ⟨m,rfl⟩ : ∃ m,n=m+1:=⟨n-1,by omega⟩
 refine ⟨b,off,k,rfl,?_,h4,h5,hel,?_,ht⟩
 ·unfold bB
  simp only []
  rw [if_pos (by omega),Int.toNat_natCast]
 ·have:=ldN_at (n:=ks.length) h4 (o:=off+i*ks.length) (by omega) (by rw [hel];exact ht.all.1)
  rw [hel] at this
  exact this
theorem els_eq {z n:Nat} {cs ds:List Value} (hz:0<z) (h1:cs.length=n*z) (h2:ds.length=n*z) (h : ∀ i,i<n→el z cs i=el z ds i):cs=ds:=by
 refine List.ext_getElem? fun j => ?_
 by_cases hj:j<n*z
 ·have hi:j/z<n:=(Nat.div_lt_iff_lt_mul hz).2 hj
  have hm:=Nat.mod_lt j hz
  have e:j/z*z+j%z=j:=by
   have:=Nat.div_add_mod j z
   rw [Nat.mul_comm] at this
   exact this
  have:=congrArg (·[j%z]?) (h _ hi)
  unfold el at this
  simp only [List.getElem?_take,if_pos hm,List.getElem?_drop,e] at this
  exact this
 ·rw [List.getElem?_eq_none (by omega),List.getElem?_eq_none (by omega)]
def eqInvA (h0:aj) (v w:Value) (z n:Nat) (cs ds:List Value) (k:Nat) (y:Nat→Value) (g:aj):Prop:=
 ∃ i,i+k=n∧y 0=v∧y 1=w∧y 12=aH n∧y 13=aH i∧g=h0 ∧ ∀ j,j<i→el z cs j=el z ds j
def eqInvB (h0:aj) (v w:Value) (z n:Nat) (cs ds:List Value) (k:Nat) (y:Nat→Value) (g:aj):Prop:=
 ∃ i,i+k=n∧y 0=v∧y 1=w∧y 5=aH i∧g=h0 ∧ ∀ j,j<i→el z cs j=el z ds j
def eqFin (h0:aj) (z n:Nat) (cs ds:List Value) (ex:Ex) (y:Nat→Value) (g:aj):Prop:=
 g=h0∧((ex = .ret∧y 4 = .bool false∧cs≠ds)∨(ex = .exit 0 ∧ ∀ j,j<n→el z cs j=el z ds j))
theorem snoc_el {z n:Nat} {cs ds:List Value} (h : ∀ j,j<n→el z cs j=el z ds j) (e:el z cs n=el z ds n) : ∀ j,j<n+1→el z cs j=el z ds j:=fun j hj=>by
 by_cases q:j=n
 ·subst q;exact e
 ·exact h j (by omega)
theorem byte_el {h:aj} {v:Value} {n:Nat} {cs:List Value} (x:dh h [.u8] v n cs) {i:Nat} (hi:i<n) : ∃ (b off m:Nat),bB 1 v (aH i)=some (ptr b (off+i*1))∧aN (ptr b (off+i*1)) h=some (.int .u8 m,h)∧m<256∧el 1 cs i = [.int .u8 m]:=by
 obtain ⟨b,off,k,_,h1,h2,h3,h4,_,h5⟩:=x.at hi
 obtain ⟨w,hw,m,rfl,hm⟩:=h5.2 0 .u8 rfl
 have hl:(el 1 cs i).length=1:=h5.1
 have he:el 1 cs i = [.int .u8 m]:=by
  match he:el 1 cs i,hl with
  | [q],_=>
    have hw:(el 1 cs i)[0]? = some (.int .u8 m):=hw
    rw [he] at hw
    cases hw;rfl
 refine ⟨b,off,m,h1,aV h2 (c := .int .u8 m) ?_ rfl,hm,he⟩
 have h4:(k.drop (off+i*1)).take 1=el 1 cs i:=h4
 have:=congrArg (·[0]?) h4
 simp only [List.getElem?_take,if_pos (show 0<1 by omega),List.getElem?_drop] at this
 rw [he] at this
 simpa using this
theorem is53:bO Tryz.prog 53 Tryz.f53:=⟨by kernel_rfl,by kernel_rfl,by kernel_rfl,by kernel_rfl⟩
theorem results53:Tryz.f53.results.toList = [.tmp 4]:=by kernel_rfl
theorem b53_exit (C:au) (e:Env) (h:aj):b53_6 C 0 e h=k53_4 C e h:=rfl
theorem round53 {h0:aj} {v w:Value} {n:Nat} {cs ds:List Value} (x:dh h0 memK v n cs) (y':dh h0 memK w n ds) (hn:n≤1000000) : ∀ k y g,eqInvA h0 v w 2 n cs ds k y g→dd 26 (eqInvA h0 v w 2 n cs ds) (eqFin h0 2 n cs ds) k (t53l53_11010 CW y g):=by
 rintro k y g ⟨i,hik,y0,y1,y12,y13,rfl,he⟩
 unfold t53l53_11010
 by_cases hi:i<n
 ·obtain ⟨b,o,q,_,a1,_,_,_,a2,a3⟩:=x.at hi
  obtain ⟨b',o',q',_,b1,_,_,_,b2,b3⟩:=y'.at hi
  have a1:bB 2 v (aH i)=some (ptr b (o+i*2)):=a1
  have b1:bB 2 w (aH i)=some (ptr b' (o'+i*2)):=b1
  have a2:bD 2 (ptr b (o+i*2)) g=some (.agg (el 2 cs i).toArray,g):=a2
  have b2:bD 2 (ptr b' (o'+i*2)) g=some (.agg (el 2 ds i).toArray,g):=b2
  obtain ⟨r,r1,_,r2⟩:=eq58 _ _ a3 b3
  have r2:bin Tryz.prog .neq 58 (.agg (el 2 cs i).toArray) (.agg (el 2 ds i).toArray)=some (.bool !r):=r2
  have r1:r=true↔el 2 cs i=el 2 ds i:=r1
  simp -implicitDefEqProofs only [y13,y12,dg,y0,y1,decide_eq_true hi,af,ak,a1,a2,b1,b2,r2]
  cases r with
  |true=>
   simp -implicitDefEqProofs only [Bool.not_true, af, ak, ee (show i+1≤9223372036854775807 by omega)]
   exact dd.next (k-1) (by omega) ⟨i+1,by omega,y0,y1,y12,rfl,rfl,snoc_el he (r1.1 rfl)⟩
  |false=>
   simp -implicitDefEqProofs only [Bool.not_false]
   exact dd.ret ⟨rfl,.inl ⟨rfl,rfl,fun h=>by
    subst h
    exact absurd (r1.2 rfl) (by decide)⟩⟩
 ·simp -implicitDefEqProofs only [y13,y12,dg,decide_eq_false hi]
  exact dd.out 0 ⟨rfl,.inr ⟨rfl,fun j hj=>he j (by omega)⟩⟩
theorem r53 {h:aj} {v w:Value} {n m:Nat} {cs ds:List Value} (hG:4≤h.n0) (x:dh h memK v n cs) (y':dh h memK w m ds) (hn:n≤1000000) : ∃ r:Bool,CW 53 [v,w] h=some (.bool r,h)∧(r=true↔cs=ds):=by
 have lx:=x.cells
 have ly:=y'.cells
 have hz:(memK:List Kd).length=2:=rfl
 rw [hz] at lx ly
 by_cases e:n=m
 ·subst e
  have key : ∃ r:Bool,t53 CW v w h=some (.bool r,h)∧(r=true↔cs=ds):=by
   unfold t53
   simp -implicitDefEqProofs only [af, x.len, y'.len, ak, neq3]
   refine bY (Q:=fun o:Out => ∃ r:Bool,o=some (Value.bool r,h)∧(r=true↔cs=ds)) (bZ (t53l53_11010_eq CW) (round53 x y' hn) n (by have:rounds=18446744073709551616:=rfl;omega)
    ⟨0,Nat.zero_add _,rfl,rfl,rfl,rfl,rfl,fun j hj=>absurd hj (Nat.not_lt_zero j)⟩) ?_
   rintro ex z g ⟨rfl,⟨rfl,z4,hne⟩|⟨rfl,he⟩⟩
   ·rw [dG,fG (t:=4) results53 (by decide),z4]
    exact ⟨false,rfl,fun h=>(by cases h),fun h=>absurd h hne⟩
   ·simp -implicitDefEqProofs only [bE,b53_exit,t53k53_4_eq]
    unfold t53k53_4
    simp -implicitDefEqProofs only [af]
    exact ⟨true,rfl,fun _=>els_eq (by decide) lx ly he,fun _=>rfl⟩
  obtain ⟨r,k1,k2⟩:=key
  exact ⟨r,aF is53 hG rfl ((t53_eq _ _ _ _).trans k1),k2⟩
 ·refine ⟨false,aF is53 hG rfl ((t53_eq _ _ _ _).trans ?_),fun h=>(by cases h),fun h => ?_⟩
  ·unfold t53
   simp -implicitDefEqProofs only [af,x.len,y'.len,ak,neq3,decide_eq_false e,Bool.not_false]
  ·rw [h,ly] at lx
   exact absurd (Nat.eq_of_mul_eq_mul_right (by decide) lx).symm e
theorem is54:bO Tryz.prog 54 Tryz.f54:=⟨by kernel_rfl,by kernel_rfl,by kernel_rfl,by kernel_rfl⟩
theorem results54:Tryz.f54.results.toList = [.tmp 4]:=by kernel_rfl
theorem b54_exit (C:au) (e:Env) (h:aj):b54_6 C 0 e h=k54_4 C e h:=rfl
theorem round54 {h0:aj} {v w:Value} {n:Nat} {cs ds:List Value} (x:dh h0 [.u8] v n cs) (y':dh h0 [.u8] w n ds) (hn:n≤1000000) : ∀ k y g,eqInvA h0 v w 1 n cs ds k y g→dd 26 (eqInvA h0 v w 1 n cs ds) (eqFin h0 1 n cs ds) k (t54l54_11010 CW y g):=by
 rintro k y g ⟨i,hik,y0,y1,y12,y13,rfl,he⟩
 unfold t54l54_11010
 by_cases hi:i<n
 ·obtain ⟨b,o,m,a1,a2,a3,a4⟩:=byte_el x hi
  obtain ⟨b',o',m',b1,b2,b3,b4⟩:=byte_el y' hi
  have hb:bin Tryz.prog .neq 5 (.int .u8 (m:Int)) (.int .u8 (m':Int))=some (.bool ((m:Int) != m')):=ax ..
  simp -implicitDefEqProofs only [y13,y12,dg,y0,y1,decide_eq_true hi,af,ak,a1,a2,b1,b2,hb]
  by_cases e:m=m'
  ·subst e
   simp -implicitDefEqProofs only [bne_self_eq_false, af, ak, ee (show i+1≤9223372036854775807 by omega)]
   exact dd.next (k-1) (by omega) ⟨i+1,by omega,y0,y1,y12,rfl,rfl,snoc_el he (a4.trans b4.symm)⟩
  ·have:((m:Int) != m')=true:=by simpa using fun h:(m:Int)=m'=>e (by omega)
   simp -implicitDefEqProofs only [this]
   exact dd.ret ⟨rfl,.inl ⟨rfl,rfl,fun h=>e (by
    subst h
    rw [a4] at b4
    simp at b4
    omega)⟩⟩
 ·simp -implicitDefEqProofs only [y13,y12,dg,decide_eq_false hi]
  exact dd.out 0 ⟨rfl,.inr ⟨rfl,fun j hj=>he j (by omega)⟩⟩
theorem r54 {h:aj} {v w:Value} {n m:Nat} {cs ds:List Value} (hG:4≤h.n0) (x:dh h [.u8] v n cs) (y':dh h [.u8] w m ds) (hn:n≤1000000) : ∃ r:Bool,CW 54 [v,w] h=some (.bool r,h)∧(r=true↔cs=ds):=by
 have lx:=x.cells
 have ly:=y'.cells
 have hz:([.u8]:List Kd).length=1:=rfl
 rw [hz] at lx ly
 by_cases e:n=m
 ·subst e
  have key : ∃ r:Bool,t54 CW v w h=some (.bool r,h)∧(r=true↔cs=ds):=by
   unfold t54
   simp -implicitDefEqProofs only [af, x.len, y'.len, ak, neq3]
   refine bY (Q:=fun o:Out => ∃ r:Bool,o=some (Value.bool r,h)∧(r=true↔cs=ds)) (bZ (t54l54_11010_eq CW) (round54 x y' hn) n (by have:rounds=18446744073709551616:=rfl;omega)
    ⟨0,Nat.zero_add _,rfl,rfl,rfl,rfl,rfl,fun j hj=>absurd hj (Nat.not_lt_zero j)⟩) ?_
   rintro ex z g ⟨rfl,⟨rfl,z4,hne⟩|⟨rfl,he⟩⟩
   ·rw [dG,fG (t:=4) results54 (by decide),z4]
    exact ⟨false,rfl,fun h=>(by cases h),fun h=>absurd h hne⟩
   ·simp -implicitDefEqProofs only [bE,b54_exit,t54k54_4_eq]
    unfold t54k54_4
    simp -implicitDefEqProofs only [af]
    exact ⟨true,rfl,fun _=>els_eq (by decide) lx ly he,fun _=>rfl⟩
  obtain ⟨r,k1,k2⟩:=key
  exact ⟨r,aF is54 hG rfl ((t54_eq _ _ _ _).trans k1),k2⟩
 ·refine ⟨false,aF is54 hG rfl ((t54_eq _ _ _ _).trans ?_),fun h=>(by cases h),fun h => ?_⟩
  ·unfold t54
   simp -implicitDefEqProofs only [af,x.len,y'.len,ak,neq3,decide_eq_false e,Bool.not_false]
  ·rw [h,ly] at lx
   exact absurd (Nat.eq_of_mul_eq_mul_right (by decide) lx).symm e
theorem is55:bO Tryz.prog 55 Tryz.f55:=⟨by kernel_rfl,by kernel_rfl,by kernel_rfl,by kernel_rfl⟩
theorem results55:Tryz.f55.results.toList = [.tmp 4]:=by kernel_rfl
theorem b55_exit (C:au) (e:Env) (h:aj):b55_6 C 0 e h=k55_4 C e h:=rfl
theorem round55 {h0:aj} {v w:Value} {n:Nat} {cs ds:List Value} (x:dh h0 recK v n cs) (y':dh h0 recK w n ds) (hn:n≤1000000) : ∀ k y g,eqInvA h0 v w 39 n cs ds k y g→dd 26 (eqInvA h0 v w 39 n cs ds) (eqFin h0 39 n cs ds) k (t55l55_11010 CW y g):=by
 rintro k y g ⟨i,hik,y0,y1,y12,y13,rfl,he⟩
 unfold t55l55_11010
 by_cases hi:i<n
 ·obtain ⟨b,o,q,_,a1,_,_,_,a2,a3⟩:=x.at hi
  obtain ⟨b',o',q',_,b1,_,_,_,b2,b3⟩:=y'.at hi
  have a1:bB 39 v (aH i)=some (ptr b (o+i*39)):=a1
  have b1:bB 39 w (aH i)=some (ptr b' (o'+i*39)):=b1
  have a2:bD 39 (ptr b (o+i*39)) g=some (.agg (el 39 cs i).toArray,g):=a2
  have b2:bD 39 (ptr b' (o'+i*39)) g=some (.agg (el 39 ds i).toArray,g):=b2
  obtain ⟨r,r1,_,r2⟩:=eq61 _ _ a3 b3
  have r2:bin Tryz.prog .neq 61 (.agg (el 39 cs i).toArray) (.agg (el 39 ds i).toArray)=some (.bool !r):=r2
  have r1:r=true↔el 39 cs i=el 39 ds i:=r1
  simp -implicitDefEqProofs only [y13,y12,dg,y0,y1,decide_eq_true hi,af,ak,a1,a2,b1,b2,r2]
  cases r with
  |true=>
   simp -implicitDefEqProofs only [Bool.not_true, af, ak, ee (show i+1≤9223372036854775807 by omega)]
   exact dd.next (k-1) (by omega) ⟨i+1,by omega,y0,y1,y12,rfl,rfl,snoc_el he (r1.1 rfl)⟩
  |false=>
   simp -implicitDefEqProofs only [Bool.not_false]
   exact dd.ret ⟨rfl,.inl ⟨rfl,rfl,fun h=>by
    subst h
    exact absurd (r1.2 rfl) (by decide)⟩⟩
 ·simp -implicitDefEqProofs only [y13,y12,dg,decide_eq_false hi]
  exact dd.out 0 ⟨rfl,.inr ⟨rfl,fun j hj=>he j (by omega)⟩⟩
theorem r55 {h:aj} {v w:Value} {n m:Nat} {cs ds:List Value} (hG:4≤h.n0) (x:dh h recK v n cs) (y':dh h recK w m ds) (hn:n≤1000000) : ∃ r:Bool,CW 55 [v,w] h=some (.bool r,h)∧(r=true↔cs=ds):=by
 have lx:=x.cells
 have ly:=y'.cells
 have hz:(recK:List Kd).length=39:=rfl
 rw [hz] at lx ly
 by_cases e:n=m
 ·subst e
  have key : ∃ r:Bool,t55 CW v w h=some (.bool r,h)∧(r=true↔cs=ds):=by
   unfold t55
   simp -implicitDefEqProofs only [af, x.len, y'.len, ak, neq3]
   refine bY (Q:=fun o:Out => ∃ r:Bool,o=some (Value.bool r,h)∧(r=true↔cs=ds)) (bZ (t55l55_11010_eq CW) (round55 x y' hn) n (by have:rounds=18446744073709551616:=rfl;omega)
    ⟨0,Nat.zero_add _,rfl,rfl,rfl,rfl,rfl,fun j hj=>absurd hj (Nat.not_lt_zero j)⟩) ?_
   rintro ex z g ⟨rfl,⟨rfl,z4,hne⟩|⟨rfl,he⟩⟩
   ·rw [dG,fG (t:=4) results55 (by decide),z4]
    exact ⟨false,rfl,fun h=>(by cases h),fun h=>absurd h hne⟩
   ·simp -implicitDefEqProofs only [bE,b55_exit,t55k55_4_eq]
    unfold t55k55_4
    simp -implicitDefEqProofs only [af]
    exact ⟨true,rfl,fun _=>els_eq (by decide) lx ly he,fun _=>rfl⟩
  obtain ⟨r,k1,k2⟩:=key
  exact ⟨r,aF is55 hG rfl ((t55_eq _ _ _ _).trans k1),k2⟩
 ·refine ⟨false,aF is55 hG rfl ((t55_eq _ _ _ _).trans ?_),fun h=>(by cases h),fun h => ?_⟩
  ·unfold t55
   simp -implicitDefEqProofs only [af,x.len,y'.len,ak,neq3,decide_eq_false e,Bool.not_false]
  ·rw [h,ly] at lx
   exact absurd (Nat.eq_of_mul_eq_mul_right (by decide) lx).symm e
theorem is86:bO Tryz.prog 86 Tryz.f86:=⟨by kernel_rfl,by kernel_rfl,by kernel_rfl,by kernel_rfl⟩
theorem results86:Tryz.f86.results.toList = [.tmp 4]:=by kernel_rfl
theorem b86_exit (C:au) (e:Env) (h:aj):b86_6 C 0 e h=k86_4 C e h:=rfl
theorem round86 {h0:aj} {v w:Value} {n:Nat} {cs ds:List Value} (x:dh h0 dQ v n cs) (y':dh h0 dQ w n ds) (hn:n≤1000000) : ∀ k y g,eqInvA h0 v w 32 n cs ds k y g→dd 26 (eqInvA h0 v w 32 n cs ds) (eqFin h0 32 n cs ds) k (t86l86_11010 CW y g):=by
 rintro k y g ⟨i,hik,y0,y1,y12,y13,rfl,he⟩
 unfold t86l86_11010
 by_cases hi:i<n
 ·obtain ⟨b,o,q,_,a1,_,_,_,a2,a3⟩:=x.at hi
  obtain ⟨b',o',q',_,b1,_,_,_,b2,b3⟩:=y'.at hi
  have a1:bB 32 v (aH i)=some (ptr b (o+i*32)):=a1
  have b1:bB 32 w (aH i)=some (ptr b' (o'+i*32)):=b1
  have a2:bD 32 (ptr b (o+i*32)) g=some (.agg (el 32 cs i).toArray,g):=a2
  have b2:bD 32 (ptr b' (o'+i*32)) g=some (.agg (el 32 ds i).toArray,g):=b2
  obtain ⟨r,r1,_,r2⟩:=eq28 _ _ a3 b3
  have r2:bin Tryz.prog .neq 28 (.agg (el 32 cs i).toArray) (.agg (el 32 ds i).toArray)=some (.bool !r):=r2
  have r1:r=true↔el 32 cs i=el 32 ds i:=r1
  simp -implicitDefEqProofs only [y13,y12,dg,y0,y1,decide_eq_true hi,af,ak,a1,a2,b1,b2,r2]
  cases r with
  |true=>
   simp -implicitDefEqProofs only [Bool.not_true, af, ak, ee (show i+1≤9223372036854775807 by omega)]
   exact dd.next (k-1) (by omega) ⟨i+1,by omega,y0,y1,y12,rfl,rfl,snoc_el he (r1.1 rfl)⟩
  |false=>
   simp -implicitDefEqProofs only [Bool.not_false]
   exact dd.ret ⟨rfl,.inl ⟨rfl,rfl,fun h=>by
    subst h
    exact absurd (r1.2 rfl) (by decide)⟩⟩
 ·simp -implicitDefEqProofs only [y13,y12,dg,decide_eq_false hi]
  exact dd.out 0 ⟨rfl,.inr ⟨rfl,fun j hj=>he j (by omega)⟩⟩
theorem r86 {h:aj} {v w:Value} {n m:Nat} {cs ds:List Value} (hG:4≤h.n0) (x:dh h dQ v n cs) (y':dh h dQ w m ds) (hn:n≤1000000) : ∃ r:Bool,CW 86 [v,w] h=some (.bool r,h)∧(r=true↔cs=ds):=by
 have lx:=x.cells
 have ly:=y'.cells
 have hz:(dQ:List Kd).length=32:=rfl
 rw [hz] at lx ly
 by_cases e:n=m
 ·subst e
  have key : ∃ r:Bool,t86 CW v w h=some (.bool r,h)∧(r=true↔cs=ds):=by
   unfold t86
   simp -implicitDefEqProofs only [af, x.len, y'.len, ak, neq3]
   refine bY (Q:=fun o:Out => ∃ r:Bool,o=some (Value.bool r,h)∧(r=true↔cs=ds)) (bZ (t86l86_11010_eq CW) (round86 x y' hn) n (by have:rounds=18446744073709551616:=rfl;omega)
    ⟨0,Nat.zero_add _,rfl,rfl,rfl,rfl,rfl,fun j hj=>absurd hj (Nat.not_lt_zero j)⟩) ?_
   rintro ex z g ⟨rfl,⟨rfl,z4,hne⟩|⟨rfl,he⟩⟩
   ·rw [dG,fG (t:=4) results86 (by decide),z4]
    exact ⟨false,rfl,fun h=>(by cases h),fun h=>absurd h hne⟩
   ·simp -implicitDefEqProofs only [bE,b86_exit,t86k86_4_eq]
    unfold t86k86_4
    simp -implicitDefEqProofs only [af]
    exact ⟨true,rfl,fun _=>els_eq (by decide) lx ly he,fun _=>rfl⟩
  obtain ⟨r,k1,k2⟩:=key
  exact ⟨r,aF is86 hG rfl ((t86_eq _ _ _ _).trans k1),k2⟩
 ·refine ⟨false,aF is86 hG rfl ((t86_eq _ _ _ _).trans ?_),fun h=>(by cases h),fun h => ?_⟩
  ·unfold t86
   simp -implicitDefEqProofs only [af,x.len,y'.len,ak,neq3,decide_eq_false e,Bool.not_false]
  ·rw [h,ly] at lx
   exact absurd (Nat.eq_of_mul_eq_mul_right (by decide) lx).symm e
theorem is43:bO Tryz.prog 43 Tryz.f43:=⟨by kernel_rfl,by kernel_rfl,by kernel_rfl,by kernel_rfl⟩
theorem results43:Tryz.f43.results.toList = [.tmp 4]:=by kernel_rfl
theorem b43_exit (C:au) (e:Env) (h:aj):b43_6 C 0 e h=k43_4 C e h:=rfl
theorem round43 {h0:aj} {v w:Value} {n:Nat} {cs ds:List Value} (x:dh h0 memK v n cs) (y':dh h0 memK w n ds) (hn:n≤1000000) : ∀ k y g,eqInvB h0 v w 2 n cs ds k y g→dd 26 (eqInvB h0 v w 2 n cs ds) (eqFin h0 2 n cs ds) k (t43l43_11010 CW y g):=by
 rintro k y g ⟨i,hik,y0,y1,y5,rfl,he⟩
 have hl:=x.len
 unfold t43l43_11010
 by_cases hi:i<n
 ·obtain ⟨b,o,q,_,a1,_,_,_,a2,a3⟩:=x.at hi
  obtain ⟨b',o',q',_,b1,_,_,_,b2,b3⟩:=y'.at hi
  have a1:bB 2 v (aH i)=some (ptr b (o+i*2)):=a1
  have b1:bB 2 w (aH i)=some (ptr b' (o'+i*2)):=b1
  have a2:bD 2 (ptr b (o+i*2)) g=some (.agg (el 2 cs i).toArray,g):=a2
  have b2:bD 2 (ptr b' (o'+i*2)) g=some (.agg (el 2 ds i).toArray,g):=b2
  obtain ⟨r,r1,_,r2⟩:=eq58 _ _ a3 b3
  have r2:bin Tryz.prog .neq 58 (.agg (el 2 cs i).toArray) (.agg (el 2 ds i).toArray)=some (.bool !r):=r2
  have r1:r=true↔el 2 cs i=el 2 ds i:=r1
  simp -implicitDefEqProofs only [y5, hl, dg, af, ak, y0, y1, decide_eq_true hi, af, ak, a1, a2, b1, b2, r2]
  cases r with
  |true=>
   simp -implicitDefEqProofs only [Bool.not_true, af, ak, ee (show i+1≤9223372036854775807 by omega)]
   exact dd.next (k-1) (by omega) ⟨i+1,by omega,y0,y1,rfl,rfl,snoc_el he (r1.1 rfl)⟩
  |false=>
   simp -implicitDefEqProofs only [Bool.not_false]
   exact dd.ret ⟨rfl,.inl ⟨rfl,rfl,fun h=>by
    subst h
    exact absurd (r1.2 rfl) (by decide)⟩⟩
 ·simp -implicitDefEqProofs only [y5,y0,hl,dg,af,ak,decide_eq_false hi]
  exact dd.out 0 ⟨rfl,.inr ⟨rfl,fun j hj=>he j (by omega)⟩⟩
theorem r43 {h:aj} {v w:Value} {n m:Nat} {cs ds:List Value} (hG:4≤h.n0) (x:dh h memK v n cs) (y':dh h memK w m ds) (hn:n≤1000000) : ∃ r:Bool,CW 43 [v,w] h=some (.bool r,h)∧(r=true↔cs=ds):=by
 have lx:=x.cells
 have ly:=y'.cells
 have hz:(memK:List Kd).length=2:=rfl
 rw [hz] at lx ly
 by_cases e:n=m
 ·subst e
  have key : ∃ r:Bool,t43 CW v w h=some (.bool r,h)∧(r=true↔cs=ds):=by
   unfold t43
   simp -implicitDefEqProofs only [af, x.len, y'.len, ak, neq3]
   refine bY (Q:=fun o:Out => ∃ r:Bool,o=some (Value.bool r,h)∧(r=true↔cs=ds)) (bZ (t43l43_11010_eq CW) (round43 x y' hn) n (by have:rounds=18446744073709551616:=rfl;omega)
    ⟨0,Nat.zero_add _,rfl,rfl,rfl,rfl,fun j hj=>absurd hj (Nat.not_lt_zero j)⟩) ?_
   rintro ex z g ⟨rfl,⟨rfl,z4,hne⟩|⟨rfl,he⟩⟩
   ·rw [dG,fG (t:=4) results43 (by decide),z4]
    exact ⟨false,rfl,fun h=>(by cases h),fun h=>absurd h hne⟩
   ·simp -implicitDefEqProofs only [bE,b43_exit,t43k43_4_eq]
    unfold t43k43_4
    simp -implicitDefEqProofs only [af]
    exact ⟨true,rfl,fun _=>els_eq (by decide) lx ly he,fun _=>rfl⟩
  obtain ⟨r,k1,k2⟩:=key
  exact ⟨r,aF is43 hG rfl ((t43_eq _ _ _ _).trans k1),k2⟩
 ·refine ⟨false,aF is43 hG rfl ((t43_eq _ _ _ _).trans ?_),fun h=>(by cases h),fun h => ?_⟩
  ·unfold t43
   simp -implicitDefEqProofs only [af,x.len,y'.len,ak,neq3,decide_eq_false e,Bool.not_false]
  ·rw [h,ly] at lx
   exact absurd (Nat.eq_of_mul_eq_mul_right (by decide) lx).symm e
theorem is44:bO Tryz.prog 44 Tryz.f44:=⟨by kernel_rfl,by kernel_rfl,by kernel_rfl,by kernel_rfl⟩
theorem results44:Tryz.f44.results.toList = [.tmp 4]:=by kernel_rfl
theorem b44_exit (C:au) (e:Env) (h:aj):b44_6 C 0 e h=k44_4 C e h:=rfl
theorem round44 {h0:aj} {v w:Value} {n:Nat} {cs ds:List Value} (x:dh h0 recK v n cs) (y':dh h0 recK w n ds) (hn:n≤1000000) : ∀ k y g,eqInvB h0 v w 39 n cs ds k y g→dd 26 (eqInvB h0 v w 39 n cs ds) (eqFin h0 39 n cs ds) k (t44l44_11010 CW y g):=by
 rintro k y g ⟨i,hik,y0,y1,y5,rfl,he⟩
 have hl:=x.len
 unfold t44l44_11010
 by_cases hi:i<n
 ·obtain ⟨b,o,q,_,a1,_,_,_,a2,a3⟩:=x.at hi
  obtain ⟨b',o',q',_,b1,_,_,_,b2,b3⟩:=y'.at hi
  have a1:bB 39 v (aH i)=some (ptr b (o+i*39)):=a1
  have b1:bB 39 w (aH i)=some (ptr b' (o'+i*39)):=b1
  have a2:bD 39 (ptr b (o+i*39)) g=some (.agg (el 39 cs i).toArray,g):=a2
  have b2:bD 39 (ptr b' (o'+i*39)) g=some (.agg (el 39 ds i).toArray,g):=b2
  obtain ⟨r,r1,_,r2⟩:=eq61 _ _ a3 b3
  have r2:bin Tryz.prog .neq 61 (.agg (el 39 cs i).toArray) (.agg (el 39 ds i).toArray)=some (.bool !r):=r2
  have r1:r=true↔el 39 cs i=el 39 ds i:=r1
  simp -implicitDefEqProofs only [y5, hl, dg, af, ak, y0, y1, decide_eq_true hi, af, ak, a1, a2, b1, b2, r2]
  cases r with
  |true=>
   simp -implicitDefEqProofs only [Bool.not_true, af, ak, ee (show i+1≤9223372036854775807 by omega)]
   exact dd.next (k-1) (by omega) ⟨i+1,by omega,y0,y1,rfl,rfl,snoc_el he (r1.1 rfl)⟩
  |false=>
   simp -implicitDefEqProofs only [Bool.not_false]
   exact dd.ret ⟨rfl,.inl ⟨rfl,rfl,fun h=>by
    subst h
    exact absurd (r1.2 rfl) (by decide)⟩⟩
 ·simp -implicitDefEqProofs only [y5,y0,hl,dg,af,ak,decide_eq_false hi]
  exact dd.out 0 ⟨rfl,.inr ⟨rfl,fun j hj=>he j (by omega)⟩⟩
theorem r44 {h:aj} {v w:Value} {n m:Nat} {cs ds:List Value} (hG:4≤h.n0) (x:dh h recK v n cs) (y':dh h recK w m ds) (hn:n≤1000000) : ∃ r:Bool,CW 44 [v,w] h=some (.bool r,h)∧(r=true↔cs=ds):=by
 have lx:=x.cells
 have ly:=y'.cells
 have hz:(recK:List Kd).length=39:=rfl
 rw [hz] at lx ly
 by_cases e:n=m
 ·subst e
  have key : ∃ r:Bool,t44 CW v w h=some (.bool r,h)∧(r=true↔cs=ds):=by
   unfold t44
   simp -implicitDefEqProofs only [af, x.len, y'.len, ak, neq3]
   refine bY (Q:=fun o:Out => ∃ r:Bool,o=some (Value.bool r,h)∧(r=true↔cs=ds)) (bZ (t44l44_11010_eq CW) (round44 x y' hn) n (by have:rounds=18446744073709551616:=rfl;omega)
    ⟨0,Nat.zero_add _,rfl,rfl,rfl,rfl,fun j hj=>absurd hj (Nat.not_lt_zero j)⟩) ?_
   rintro ex z g ⟨rfl,⟨rfl,z4,hne⟩|⟨rfl,he⟩⟩
   ·rw [dG,fG (t:=4) results44 (by decide),z4]
    exact ⟨false,rfl,fun h=>(by cases h),fun h=>absurd h hne⟩
   ·simp -implicitDefEqProofs only [bE,b44_exit,t44k44_4_eq]
    unfold t44k44_4
    simp -implicitDefEqProofs only [af]
    exact ⟨true,rfl,fun _=>els_eq (by decide) lx ly he,fun _=>rfl⟩
  obtain ⟨r,k1,k2⟩:=key
  exact ⟨r,aF is44 hG rfl ((t44_eq _ _ _ _).trans k1),k2⟩
 ·refine ⟨false,aF is44 hG rfl ((t44_eq _ _ _ _).trans ?_),fun h=>(by cases h),fun h => ?_⟩
  ·unfold t44
   simp -implicitDefEqProofs only [af,x.len,y'.len,ak,neq3,decide_eq_false e,Bool.not_false]
  ·rw [h,ly] at lx
   exact absurd (Nat.eq_of_mul_eq_mul_right (by decide) lx).symm e
end Go.Proofs.YtjghlcdidopcpaaGreatDoor

namespace Go.Proofs.YtjghlcdidopcpaaGreatDoor
open Go Go.Abs
theorem fz (h:aj) (cs:List Value) (hc:aQ cs=true):box (.agg cs.toArray) h=some (ptr h.next 0,h.alloc cs):=by
 have e:(Value.agg cs.toArray).cells=cs.toArray:=rfl
 unfold box
 rw [e,if_pos (by simpa using hc)]
 simp [Abs.newRow]
theorem mid {k A B C:List Value} {p n:Nat} (h:k=A++(B++C)) (hA:A.length=p) (hB:B.length=n):(k.drop p).take n=B:=by
 subst h hA hB
 rw [List.drop_left,List.take_left]
theorem gj {h:aj} {b p n:Nat} {k A B C:List Value} (g:h.get b=some k) (e:k=A++(B++C)) (hA:A.length=p) (hB:B.length=n) (nh:Abs.bH B=true):bD n (ptr b p) h=some (.agg B.toArray,h):=by
 have hm:=mid e hA hB
 have hl:p+n≤k.length:=by rw [e,List.length_append,List.length_append];omega
 have:=ldN_at g (o:=p) (n:=n) hl (by rw [hm];exact nh)
 rw [hm] at this
 exact this
@[ext] structure bV where
  kind:Int
  from_:Int
  to_:Int
  seq:Int
  origin:Int
  target:Int
  count:Int
  root:List Value
  want:Bool
  obj:List Value
  gk:Int
  gn:Int
  gt:Int
  gs:Int
  dk:List Value
  cN:Int
  code:Int
  table:List Value
  low:List Value
  high:List Value
  cp:List Value
  pieces:List Value
  data:List Value
structure cR where
 a:Value
 b:Value
 c:Value
 d:Value
 e:Value
 f:Value
def bV.eM (M:bV) (s:cR):dB := [.int .i64 M.gk,.int .i64 M.gn,.int .i64 M.gt,.int .i64 M.gs]++(M.dk ++ [s.e])
def bV.front (M:bV) (s:cR):dB := [.int .u8 M.kind,.int .i64 M.from_,.int .i64 M.to_,.int .u64 M.seq,.int .i64 M.origin,.int .i64 M.target,s.a,s.b,s.c,.int .i64 M.count]
def bV.cells (M:bV) (s:cR):dB:=M.front s++(M.root++([s.d,.bool M.want]++(M.obj++(M.eM s ++ [.int .i64 M.cN,s.f,.int .i64 M.code]))))
structure bV.Ok (M:bV):Prop where
 root:Typed dQ M.root
 obj:Typed dQ M.obj
 dk:Typed dQ M.dk
structure N6 where
 a:Nat
 b:Nat
 c:Nat
 d:Nat
 e:Nat
 f:Nat
structure SlV (h:aj) (s:cR) (n:N6) (M:bV):Prop where
 a:dh h memK s.a n.a M.table
 b:dh h [.u8] s.b n.b M.low
 c:dh h [.u8] s.c n.c M.high
 d:dh h recK s.d n.d M.cp
 e:dh h dQ s.e n.e M.pieces
 f:dh h [.u8] s.f n.f M.data
structure N6.Small (n:N6):Prop where
 a:n.a≤1000000
 b:n.b≤1000000
 c:n.c≤1000000
 d:n.d≤1000000
 e:n.e≤1000000
 f:n.f≤1000000
def cR.off (s:cR) (B:Nat→Prop):Prop := ∀ v,v=s.a∨v=s.b∨v=s.c∨v=s.d∨v=s.e∨v=s.f → ∀ b,slB v=some b → ¬B b
theorem SlV.bF {h h':aj} {s:cR} {n:N6} {M:bV} (x:SlV h s n M) {B:Nat→Prop} (k:Kept h h' B) (hB:s.off B):SlV h' s n M:=
 ⟨x.a.bF k (hB _ (.inl rfl)),x.b.bF k (hB _ (.inr (.inl rfl))),x.c.bF k (hB _ (.inr (.inr (.inl rfl)))),x.d.bF k (hB _ (.inr (.inr (.inr (.inl rfl))))),x.e.bF k (hB _ (.inr (.inr (.inr (.inr (.inl rfl)))))),x.f.bF k (hB _ (.inr (.inr (.inr (.inr (.inr rfl))))))⟩
theorem SlV.bA {h h':aj} {s:cR} {n:N6} {M:bV} (x:SlV h s n M) (k:Old h h'):SlV h' s n M:=x.bF k (fun _ _ _ _ h=>h)
theorem ba {h:aj} {ks:List Kd} {v:Value} {n:Nat} {cs:List Value} (x:dh h ks v n cs):isHole v=false∧v.oneCell'=true∧v.cells = #[v]:=by
 obtain ⟨a,c,rfl,_⟩:=x
 exact ⟨rfl,rfl,rfl⟩
theorem dK {a b:List Value} (h1:Abs.bH a=true) (h2:Abs.bH b=true):Abs.bH (a++b)=true:=by
 unfold Abs.bH at *
 rw [List.all_append,h1,h2];rfl
theorem dO {a b:List Value} (h1:aQ a=true) (h2:aQ b=true):aQ (a++b)=true:=by
 unfold aQ at *
 rw [List.all_append,h1,h2];rfl
theorem noH_one {v:Value} (h:isHole v=false):Abs.bH [v]=true:=by
 simp [Abs.bH,h]
section
variable {h:aj} {s:cR} {n:N6} {M:bV} (x:SlV h s n M) (ok:M.Ok)
include x ok
theorem man_ok:Abs.bH (M.eM s)=true∧aQ (M.eM s)=true∧(M.eM s).length=37:=by
 have hm:=ok.dk.all
 have hl:M.dk.length=32:=ok.dk.1
 obtain ⟨e1,e2,_⟩:=ba x.e
 refine ⟨dK rfl (dK hm.1 (noH_one e1)),dO rfl (dO hm.2.1 (by simp [aQ,e2])),?_⟩
 unfold bV.eM
 simp [hl]
theorem cP:Abs.bH (M.cells s)=true∧aQ (M.cells s)=true∧(M.cells s).length=116:=by
 have hr:=ok.root.all
 have ho:=ok.obj.all
 have hrl:M.root.length=32:=ok.root.1
 have hol:M.obj.length=32:=ok.obj.1
 obtain ⟨m1,m2,m3⟩:=man_ok x ok
 obtain ⟨a1,a2,_⟩:=ba x.a
 obtain ⟨b1,b2,_⟩:=ba x.b
 obtain ⟨c1,c2,_⟩:=ba x.c
 obtain ⟨d1,d2,_⟩:=ba x.d
 obtain ⟨f1,f2,_⟩:=ba x.f
 refine ⟨dK ?_ (dK hr.1 (dK ?_ (dK ho.1 (dK m1 ?_)))),dO ?_ (dO hr.2.1 (dO ?_ (dO ho.2.1 (dO m2 ?_)))),?_⟩
 ·unfold bV.front Abs.bH;simp only [List.all_cons,List.all_nil,a1,b1,c1];rfl
 ·unfold Abs.bH;simp only [List.all_cons,List.all_nil,d1];rfl
 ·unfold Abs.bH;simp only [List.all_cons,List.all_nil,f1];rfl
 ·unfold bV.front;simp [aQ,a2,b2,c2];exact ⟨rfl,rfl,rfl,rfl,rfl,rfl,rfl⟩
 ·simp [aQ,d2];rfl
 ·simp [aQ,f2];exact ⟨rfl,rfl⟩
 ·unfold bV.cells bV.front
  simp [hrl,hol,m3]
end
structure MsgLd (h:aj) (b:Nat) (s:cR) (M:bV):Prop where
 l0:aN (ptr b 0) h=some (.int .u8 M.kind,h)
 l1:aN (ptr b 1) h=some (.int .i64 M.from_,h)
 l2:aN (ptr b 2) h=some (.int .i64 M.to_,h)
 l3:aN (ptr b 3) h=some (.int .u64 M.seq,h)
 l4:aN (ptr b 4) h=some (.int .i64 M.origin,h)
 l5:aN (ptr b 5) h=some (.int .i64 M.target,h)
 l6:aN (ptr b 6) h=some (s.a,h)
 l7:aN (ptr b 7) h=some (s.b,h)
 l8:aN (ptr b 8) h=some (s.c,h)
 l9:aN (ptr b 9) h=some (.int .i64 M.count,h)
 cj:bD 32 (ptr b 10) h=some (.agg M.root.toArray,h)
 bW:aN (ptr b 42) h=some (s.d,h)
 cw:aN (ptr b 43) h=some (.bool M.want,h)
 cu:bD 32 (ptr b 44) h=some (.agg M.obj.toArray,h)
 cg:bD 37 (ptr b 76) h=some (.agg (M.eM s).toArray,h)
 l112:aN (ptr b 112) h=some (s.e,h)
 aW:aN (ptr b 113) h=some (.int .i64 M.cN,h)
 aX:aN (ptr b 114) h=some (s.f,h)
 aY:aN (ptr b 115) h=some (.int .i64 M.code,h)
 all:bD 116 (ptr b 0) h=some (.agg (M.cells s).toArray,h)
theorem msg_ld {h h0:aj} {b:Nat} {s:cR} {n:N6} {M:bV} (x:SlV h0 s n M) (ok:M.Ok) (g:h.get b=some (M.cells s)):MsgLd h b s M:=by
 have hr:=ok.root.all
 have ho:=ok.obj.all
 have hrl:M.root.length=32:=ok.root.1
 have hol:M.obj.length=32:=ok.obj.1
 have hml:M.dk.length=32:=ok.dk.1
 obtain ⟨m1,_,m3⟩:=man_ok x ok
 obtain ⟨c1,_,c3⟩:=cP x ok
 have hf:(M.front s).length=10:=rfl
 have key : ∀ i v,(M.front s)[i]? = some v→(M.cells s)[i]? = some v:=fun i v e=>by
  have hi:=(List.getElem?_eq_some_iff.1 e).1
  unfold bV.cells
  rw [List.getElem?_append_left hi]
  exact e
 have at42 : ∀ i v,[s.d,.bool M.want][i]? = some v→(M.cells s)[42+i]? = some v:=fun i v e=>by
  have hi:i<2:=(List.getElem?_eq_some_iff.1 e).1
  unfold bV.cells
  rw [List.getElem?_append_right (by omega),hf,List.getElem?_append_right (by omega),hrl,show 42+i-10-32=i by omega,List.getElem?_append_left hi]
  exact e
 have at113 : ∀ i v,[Value.int .i64 M.cN,s.f,.int .i64 M.code][i]? = some v→(M.cells s)[113+i]? = some v:=fun i v e=>by
  unfold bV.cells
  have h2:([s.d,Value.bool M.want]:List Value).length=2:=rfl
  rw [List.getElem?_append_right (by omega),hf,List.getElem?_append_right (by omega),hrl,List.getElem?_append_right (by omega),h2,List.getElem?_append_right (by omega),hol,List.getElem?_append_right (by omega),m3,show 113+i-10-32-2-32-37=i by omega]
  exact e
 have at112:(M.cells s)[112]? = some s.e:=by
  unfold bV.cells
  have h2:([s.d,Value.bool M.want]:List Value).length=2:=rfl
  rw [List.getElem?_append_right (by omega),hf,List.getElem?_append_right (by omega),hrl,List.getElem?_append_right (by omega),h2,List.getElem?_append_right (by omega),hol,List.getElem?_append_left (by omega)]
  unfold bV.eM
  rw [List.getElem?_append_right (by simp),List.getElem?_append_right (by simp [hml])]
  simp [hml]
 exact ⟨aV g (key 0 _ rfl) rfl,aV g (key 1 _ rfl) rfl,aV g (key 2 _ rfl) rfl,aV g (key 3 _ rfl) rfl,aV g (key 4 _ rfl) rfl,aV g (key 5 _ rfl) rfl,aV g (key 6 _ rfl) (ba x.a).1,aV g (key 7 _ rfl) (ba x.b).1,aV g (key 8 _ rfl) (ba x.c).1,aV g (key 9 _ rfl) rfl,
  gj g (A:=M.front s) (B:=M.root) rfl hf hrl hr.1,aV g (at42 0 _ rfl) (ba x.d).1,aV g (at42 1 _ rfl) rfl,
  gj g (A:=M.front s++(M.root ++ [s.d,.bool M.want])) (B:=M.obj) (C:=M.eM s ++ [.int .i64 M.cN,s.f,.int .i64 M.code]) (by unfold bV.cells;simp only [List.append_assoc]) (by simp [hf,hrl]) hol ho.1,
  gj g (A:=M.front s++(M.root++([s.d,.bool M.want]++M.obj))) (B:=M.eM s) (C := [.int .i64 M.cN,s.f,.int .i64 M.code]) (by unfold bV.cells;simp only [List.append_assoc]) (by simp [hf,hrl,hol]) m3 m1,
  aV g at112 (ba x.e).1,aV g (at113 0 _ rfl) rfl,aV g (at113 1 _ rfl) (ba x.f).1,aV g (at113 2 _ rfl) rfl,
  gj g (A := []) (B:=M.cells s) (C := []) (by simp) rfl c3 c1⟩
structure ManLd (h:aj) (b:Nat) (s:cR) (M:bV):Prop where
 l0:aN (ptr b 0) h=some (.int .i64 M.gk,h)
 l1:aN (ptr b 1) h=some (.int .i64 M.gn,h)
 l2:aN (ptr b 2) h=some (.int .i64 M.gt,h)
 l3:aN (ptr b 3) h=some (.int .i64 M.gs,h)
 l4:bD 32 (ptr b 4) h=some (.agg M.dk.toArray,h)
 fa:aN (ptr b 36) h=some (s.e,h)
theorem man_ld {h h0:aj} {b:Nat} {s:cR} {n:N6} {M:bV} (x:SlV h0 s n M) (ok:M.Ok) (g:h.get b=some (M.eM s)):ManLd h b s M:=by
 have hm:=ok.dk.all
 have hml:M.dk.length=32:=ok.dk.1
 have at36:(M.eM s)[36]? = some s.e:=by
  unfold bV.eM
  rw [List.getElem?_append_right (by simp),List.getElem?_append_right (by simp [hml])]
  simp [hml]
 exact ⟨aV g rfl rfl,aV g rfl rfl,aV g rfl rfl,aV g rfl rfl,gj g (A := [.int .i64 M.gk,.int .i64 M.gn,.int .i64 M.gt,.int .i64 M.gs]) (B:=M.dk) rfl rfl hml hm.1,aV g at36 (ba x.e).1⟩
end Go.Proofs.YtjghlcdidopcpaaGreatDoor

