/-
  A part of the proof, spaces and names shortened by a program (a claim may hold 1,500,000 bytes).
  Conditions: as each theorem states.
-/
import Derived.Test.YtdnahgfgoajmcaaDoorG11
import Derived.Test.YtdnahgfgoajmcaaDoorProg
import Derived.KernelRfl
namespace Go.Proofs.YtdnahgfgoajmcaaDoor
open Go Go.Abs
def bZ:List Value := [.int .u32 1116352408,.int .u32 1899447441,.int .u32 3049323471,.int .u32 3921009573,.int .u32 961987163,.int .u32 1508970993,.int .u32 2453635748,.int .u32 2870763221,.int .u32 3624381080,.int .u32 310598401,.int .u32 607225278,.int .u32 1426881987,.int .u32 1925078388,.int .u32 2162078206,.int .u32 2614888103,.int .u32 3248222580,.int .u32 3835390401,.int .u32 4022224774,.int .u32 264347078,.int .u32 604807628,.int .u32 770255983,.int .u32 1249150122,.int .u32 1555081692,.int .u32 1996064986,.int .u32 2554220882,.int .u32 2821834349,.int .u32 2952996808,.int .u32 3210313671,.int .u32 3336571891,.int .u32 3584528711,.int .u32 113926993,.int .u32 338241895,.int .u32 666307205,.int .u32 773529912,.int .u32 1294757372,.int .u32 1396182291,.int .u32 1695183700,.int .u32 1986661051,.int .u32 2177026350,.int .u32 2456956037,.int .u32 2730485921,.int .u32 2820302411,.int .u32 3259730800,.int .u32 3345764771,.int .u32 3516065817,.int .u32 3600352804,.int .u32 4094571909,.int .u32 275423344,.int .u32 430227734,.int .u32 506948616,.int .u32 659060556,.int .u32 883997877,.int .u32 958139571,.int .u32 1322822218,.int .u32 1537002063,.int .u32 1747873779,.int .u32 1955562222,.int .u32 2024104815,.int .u32 2227730452,.int .u32 2361852424,.int .u32 2428436474,.int .u32 2756734187,.int .u32 3204031479,.int .u32 3329325298]
def DI:Nat→Option (List Value):=fun b=>match b with
 | 3=>some bZ
 |_=>none
noncomputable def okF (f:FuncId):Bool:=match Tryd.prog.funcs[f]? with|some fn=>fnOk Tryd.prog fn|none=>false
theorem c119:cw Tryd.prog 119 cmpS:=cmp_contract (fn:=Tryd.f119) (by kernel_rfl) (by kernel_rfl) (by kernel_rfl) (by kernel_rfl) (by kernel_rfl)
noncomputable abbrev X0:ae:=callL [(119,cmpS)]
theorem X0_sound:aU Tryd.prog X0:=callL_sound _ (by
 intro p hp
 simp only [List.mem_cons,List.not_mem_nil,or_false] at hp
 subst hp
 exact c119)
def isTrueV:Value→Bool
 | .bool true=>true
 |_=>false
noncomputable def runQ (f:FuncId) (k:Value→ab→Bool):Bool:=callQ Tryd.prog okF X0 (fun f=>Nat.beq f 119) 100000 40 f [] (bareG Tryd.prog DI) k
theorem known_runs:runQ 14 (fun v _=>isTrueV v)=true:=by kernel_rfl
end Go.Proofs.YtdnahgfgoajmcaaDoor

namespace Go.Proofs.YtdnahgfgoajmcaaDoor
open Go Go.Abs
theorem prog_mixed:Tryd.prog.follows .mixedOrders=true:=by kernel_rfl
theorem okF_sound : ∀ f fn,okF f=true→Tryd.prog.funcs[f]? = some fn→fnOk Tryd.prog fn=true:=by
 intro f fn h1 h2
 unfold okF at h1
 rw [h2] at h1
 exact h1
theorem known_lt:14<Tryd.prog.funcs.size:=Nat.le_of_ble_eq_true (by kernel_rfl)
theorem known_WB:WB (callQ Tryd.prog okF X0 (fun f=>Nat.beq f 119) 100000 40) 14 [] (bareG Tryd.prog DI) fun v _=>v = .bool true:=by
 refine ⟨fun v _=>isTrueV v,known_runs,fun v h e => ?_⟩
 have e:isTrueV v=true:=e
 unfold isTrueV at e
 split at e
 ·rfl
 ·cases e
noncomputable def s14 (args:List Value) (h:ab):Out:=by
 classical exact if args = []∧h.get 3=some bZ then some (.bool true,h) else none
theorem s14_eq {h:ab} (g:h.get 3=some bZ):s14 [] h=some (.bool true,h):=by
 unfold s14
 rw [if_pos ⟨rfl,g⟩]
theorem c14:cw Tryd.prog 14 s14:=by
 refine cw.closedQ (callQ_sound (sm:=fun f=>Nat.beq f 119) X0_sound (by unfold rounds;omega) prog_mixed okF_sound 40) known_lt (v := .bool true) rfl DI ?_ known_WB s14 ?_
 ·intro b cs e
  unfold DI at e
  split at e
  ·cases e;kernel_rfl
  ·cases e
 ·intro args h r e
  unfold s14 at e
  split at e
  ·rename_i hh
   cases e
   refine ⟨hh.1,rfl,fun b cs _ hd => ?_⟩
   unfold DI at hd
   split at hd
   ·cases hd;exact hh.2
   ·cases hd
  ·cases e
noncomputable abbrev XL:List (FuncId×(List Value→ab→Out)) := [(14,s14),(119,cmpS)]
noncomputable abbrev XX:ae:=callL XL
theorem XX_sound:aU Tryd.prog XX:=callL_sound _ (by
 intro p hp
 simp only [List.mem_cons,List.not_mem_nil,or_false] at hp
 rcases hp with rfl|rfl
 ·exact c14
 ·exact c119)
noncomputable def CW:ae:=CC Tryd.prog XX
theorem globals4:Tryd.prog.globals.size=4:=by kernel_rfl
theorem aC {f:FuncId} {fn:Func} (i:cd Tryd.prog f fn) {args:List Value} {h:ab} {r:Value×ab} (hg:4≤h.n0) (hX:XX f args h=none) (e:bw Tryd.prog CW fn args h=some r):CW f args h=some r:=
 CC_body i (by rw [globals4];exact hg) hX e
theorem r14 {h:ab} (g:h.get 3=some bZ):CW 14 [] h=some (.bool true,h):=CC_known (show XX 14 [] h=some (.bool true,h) from s14_eq g)
end Go.Proofs.YtdnahgfgoajmcaaDoor

namespace Go.Proofs.YtdnahgfgoajmcaaDoor
open Go Go.Abs
abbrev Old (h h':ab):Prop:=Kept h h' (fun _=>False)
theorem Old.get {h h':ab} (o:Old h h') {b:Nat} {k:Blk} (e:h.get b=some k):h'.get b=some k:=(Kept.get o b (h.aP e) (fun h=>h)).trans e
theorem aq {γ:Type} {o o':Out} {f:Value→ab→Option γ} (h:o=o'):aa o f=aa o' f:=by rw [h]
inductive Kd where
 |u8
 |i (k:IntKind)
 |b
def Kd.has:Kd→Value→Prop
 | .u8,v => ∃ n:Nat,v = .int .u8 n∧n<256
 | .i k,v => ∃ n:Int,v = .int k n∧(Lit.int k n).wf=true
 | .b,v => ∃ t:Bool,v = .bool t
theorem Kd.has.cell {k:Kd} {v:Value} (h:k.has v):isHole v=false∧v.oneCell'=true∧flat v=true∧v.cells = #[v]:=by
 cases k with
 |u8=>obtain ⟨n,rfl,_⟩:=h;exact ⟨rfl,rfl,rfl,rfl⟩
 |i k=>obtain ⟨n,rfl,_⟩:=h;exact ⟨rfl,rfl,rfl,rfl⟩
 |b=>obtain ⟨t,rfl⟩:=h;exact ⟨rfl,rfl,rfl,rfl⟩
def Typed (ks:List Kd) (cs:List Value):Prop:=cs.length=ks.length ∧ ∀ (j:Nat) (k:Kd),ks[j]? = some k → ∃ v,cs[j]? = some v∧k.has v
theorem Typed.cell {ks:List Kd} {cs:List Value} (h:Typed ks cs) {j:Nat} {v:Value} (hv:cs[j]? = some v):isHole v=false∧v.oneCell'=true∧flat v=true∧v.cells = #[v]:=by
 have hj:=(List.getElem?_eq_some_iff.1 hv).1
 have hj':j<ks.length:=by rw [←h.1];exact hj
 obtain ⟨w,hw,hk⟩:=h.2 j _ (List.getElem?_eq_getElem hj')
 rw [hv] at hw
 cases hw
 exact hk.cell
theorem Typed.all {ks:List Kd} {cs:List Value} (h:Typed ks cs):Abs.bJ cs=true∧aJ cs=true∧flatAll cs=true:=by
 have key : ∀ v∈cs,isHole v=false∧v.oneCell'=true∧flat v=true:=fun v hv=>by
  obtain ⟨j,hj⟩:=List.mem_iff_getElem?.1 hv
  obtain ⟨a,b,c,_⟩:=h.cell hj
  exact ⟨a,b,c⟩
 refine ⟨?_,?_,?_⟩
 ·unfold Abs.bJ
  rw [List.all_eq_true]
  exact fun v hv=>by rw [(key v hv).1];rfl
 ·unfold aJ
  rw [List.all_eq_true]
  exact fun v hv=>(key v hv).2.1
 ·unfold flatAll
  rw [List.all_eq_true]
  exact fun v hv=>(key v hv).2.2
def EqT (t:TypeId) (ks:List Kd):Prop := ∀ xs ys:List Value,Typed ks xs→Typed ks ys → ∃ r:Bool,(r=true↔xs=ys)∧bin Tryd.prog .eql t (.agg xs.toArray) (.agg ys.toArray)=some (.bool r)∧bin Tryd.prog .neq t (.agg xs.toArray) (.agg ys.toArray)=some (.bool !r)
def digK:List Kd:=List.replicate 32 .u8
def recK:List Kd := .u8::(List.replicate 32 .u8 ++ [.i .i64,.i .u64,.i .u64,.b,.i .i64,.i .i64])
theorem size1:cz Tryd.prog 5=some 1:=by kernel_rfl
theorem fK:cz Tryd.prog 35=some 32:=by kernel_rfl
theorem dg {xs:List Value} (h:flatAll xs=true):ground (.agg xs.toArray)=true:=by
 show flatAll xs.toArray.toList=true
 exact h
theorem dig_get {xs:List Value} (h:Typed digK xs) {i:Nat} (hi:i<32) : ∃ n:Nat,xs[i]? = some (.int .u8 n)∧n<256:=by
 obtain ⟨v,h1,n,rfl,h2⟩:=h.2 i .u8 (by unfold digK;rw [List.getElem?_replicate,if_pos hi])
 exact ⟨n,h1,h2⟩
theorem dig_run {d:Nat} {xs ys:List Value} (hx:Typed digK xs) (hy:Typed digK ys) : ∃ r:Bool,(r=true↔xs=ys)∧bT Tryd.prog (Op.equalIn (d+2) 35 (.agg xs.toArray) (.agg ys.toArray))=some r:=by
 obtain ⟨r,h1,h2⟩:=pr_eq_arr (P:=Tryd.prog) (d:=d) (m:=32) (t:=35) (e:=5) (k := .u8) (j := .u8) (xs:=xs.toArray) (ys:=ys.toArray) Tryd.underlying35 size1 Tryd.underlying5 (fun i hi=>by
  obtain ⟨a,ha,_⟩:=dig_get hx hi
  obtain ⟨b,hb,_⟩:=dig_get hy hi
  exact ⟨a,b,by simpa using ha,by simpa using hb⟩)
 refine ⟨r,h1.trans ⟨fun hh => ?_,fun hh i hi=>by rw [hh]⟩,h2⟩
 have lx:xs.length=32:=hx.1
 have ly:ys.length=32:=hy.1
 refine List.ext_getElem? fun i => ?_
 by_cases hi:i<32
 ·simpa using hh i hi
 ·rw [List.getElem?_eq_none (by omega),List.getElem?_eq_none (by omega)]
end Go.Proofs.YtdnahgfgoajmcaaDoor

namespace Go.Proofs.YtdnahgfgoajmcaaDoor
open Go Go.Abs
theorem rec_form {l:List Value} (h:Typed recK l) : ∃ (a:Nat) (o:List Value) (b c d:Int) (e:Bool) (f g:Int),l = .int .u8 a::(o ++ [.int .i64 b,.int .u64 c,.int .u64 d,.bool e,.int .i64 f,.int .i64 g])∧Typed digK o∧a<256∧(Lit.int .i64 b).wf=true∧(Lit.int .u64 c).wf=true∧(Lit.int .u64 d).wf=true∧(Lit.int .i64 f).wf=true∧(Lit.int .i64 g).wf=true:=by
 have hl:l.length=39:=h.1
 obtain ⟨_,h0,a,rfl,wa⟩:=h.2 0 .u8 rfl
 obtain ⟨_,h33,b,rfl,wb⟩:=h.2 33 (.i .i64) rfl
 obtain ⟨_,h34,c,rfl,wc⟩:=h.2 34 (.i .u64) rfl
 obtain ⟨_,h35,d,rfl,wd⟩:=h.2 35 (.i .u64) rfl
 obtain ⟨_,h36,e,rfl⟩:=h.2 36 .b rfl
 obtain ⟨_,h37,f,rfl,wf⟩:=h.2 37 (.i .i64) rfl
 obtain ⟨_,h38,g,rfl,wg⟩:=h.2 38 (.i .i64) rfl
 refine ⟨a,(l.drop 1).take 32,b,c,d,e,f,g,?_,?_,wa,wb,wc,wd,wf,wg⟩
 ·refine List.ext_getElem? fun i => ?_
  have hlo:((l.drop 1).take 32).length=32:=by rw [List.length_take,List.length_drop];omega
  rcases i with _|i
  ·exact h0
  ·rw [List.getElem?_cons_succ]
   by_cases hi:i<32
   ·rw [List.getElem?_append_left (by omega),List.getElem?_take,if_pos hi,List.getElem?_drop,Nat.add_comm]
   ·rw [List.getElem?_append_right (by omega),hlo]
    rcases (show i=32∨i=33∨i=34∨i=35∨i=36∨i=37∨38≤i by omega) with rfl|rfl|rfl|rfl|rfl|rfl|h38'
    ·exact h33
    ·exact h34
    ·exact h35
    ·exact h36
    ·exact h37
    ·exact h38
    ·rw [List.getElem?_eq_none (by omega),List.getElem?_eq_none (by simp;omega)]
 ·refine ⟨by rw [List.length_take,List.length_drop,hl];rfl,fun j k hk => ?_⟩
  have hj:j<32:=by
   have:=(List.getElem?_eq_some_iff.1 hk).1
   simpa [digK] using this
  have hk':k = .u8:=by
   unfold digK at hk
   rw [List.getElem?_replicate,if_pos hj] at hk
   exact (Option.some.inj hk).symm
  subst hk'
  obtain ⟨v,hv,hh⟩:=h.2 (j+1) .u8 (by
   unfold recK
   rw [List.getElem?_cons_succ,List.getElem?_append_left (by simpa using hj),List.getElem?_replicate,if_pos hj])
  exact ⟨v,by rw [List.getElem?_take,if_pos hj,List.getElem?_drop,Nat.add_comm];exact hv,hh⟩
theorem rec_at {a b c d e f:Value} {x:Value} {o:List Value} (ho:o.length=32) (i:Nat):(x::(o ++ [a,b,c,d,e,f])).toArray[33+i]? = [a,b,c,d,e,f][i]? := by
 rw [List.getElem?_toArray,show 33+i=(32+i)+1 by omega,List.getElem?_cons_succ,List.getElem?_append_right (by omega),ho,Nat.add_sub_cancel_left]
theorem rec_obj {x:Value} {o t:List Value} (ho:o.length=32):(x::(o++t)).toArray.extract 1 (1+32)=o.toArray:=by
 rw [List.extract_toArray]
 congr 1
 show ((x::(o++t)).drop 1).take (1+32-1)=o
 rw [List.drop_succ_cons,List.drop_zero,show 1+32-1=32 from rfl,←ho,List.take_left']
 rfl
theorem eq58:EqT 58 recK:=by
 intro xs ys hx hy
 have fx:=hx.all.2.2
 have fy:=hy.all.2.2
 obtain ⟨a,o,b,c,d,e,f,g,rfl,ho,_⟩:=rec_form hx
 obtain ⟨a',o',b',c',d',e',f',g',rfl,ho',_⟩:=rec_form hy
 obtain ⟨r,hr,hrun⟩:=dig_run (d:=9997) ho ho'
 have l1:o.length=32:=ho.1
 have l2:o'.length=32:=ho'.1
 have hp:bT Tryd.prog (Op.equalIn 10000 58 (.agg (Value.int .u8 a::(o ++ [.int .i64 b,.int .u64 c,.int .u64 d,.bool e,.int .i64 f,.int .i64 g])).toArray) (.agg (Value.int .u8 a'::(o' ++ [.int .i64 b',.int .u64 c',.int .u64 d',.bool e',.int .i64 f',.int .i64 g'])).toArray))
   = some (decide ((a:Int)=a')&&(r&&(decide (b=b')&&(decide (c=c')&&(decide (d=d')&&(decide (e=e')&&(decide (f=f')&&decide (g=g')))))))):=by
  rw [pr_eq_struct (P:=Tryd.prog) (d:=9999) Tryd.underlying58 (by kernel_rfl)]
  simp only [eqF]
  rw [if_pos (by decide),if_pos (by decide),if_pos (by decide),if_pos (by decide),if_pos (by decide),if_pos (by decide),if_pos (by decide),if_pos (by decide)]
  rw [bY (v := .int .u8 a) Tryd.underlying56 rfl,bY (v := .int .u8 a') Tryd.underlying56 rfl,pr_part_arr Tryd.underlying35 fK,pr_part_arr Tryd.underlying35 fK,rec_obj l1,rec_obj l2]
  rw [bY (v := .int .i64 b) Tryd.underlying3 (rec_at l1 0),bY (v := .int .i64 b') Tryd.underlying3 (rec_at l2 0),bY (v := .int .u64 c) Tryd.underlying32 (rec_at l1 1),bY (v := .int .u64 c') Tryd.underlying32 (rec_at l2 1),
   bY (v := .int .u64 d) Tryd.underlying32 (rec_at l1 2),bY (v := .int .u64 d') Tryd.underlying32 (rec_at l2 2),pr_part_bool (v := .bool e) Tryd.underlying4 (rec_at l1 3),pr_part_bool (v := .bool e') Tryd.underlying4 (rec_at l2 3),
   bY (v := .int .i64 f) Tryd.underlying3 (rec_at l1 4),bY (v := .int .i64 f') Tryd.underlying3 (rec_at l2 4),bY (v := .int .i64 g) Tryd.underlying3 (rec_at l1 5),bY (v := .int .i64 g') Tryd.underlying3 (rec_at l2 5)]
  simp only [Option.bind_some,pr_eq_int (d:=9998) Tryd.underlying56,pr_eq_int (d:=9998) Tryd.underlying3,pr_eq_int (d:=9998) Tryd.underlying32,pr_eq_bool (d:=9998) Tryd.underlying4,hrun]
  by_cases e1:(a:Int)=a'
  ·cases r
   ·simp [e1]
   ·by_cases e2:b=b'<;>by_cases e3:c=c'<;>by_cases e4:d=d'<;>by_cases e5:e=e'<;>by_cases e6:f=f'<;>by_cases e7:g=g'<;>simp [e1,e2,e3,e4,e5,e6,e7]
  ·simp [e1]
 refine ⟨_,?_,bin_agg (by kernel_rfl) (dg fx) (dg fy) hp⟩
 constructor
 ·intro h
  simp only [Bool.and_eq_true,decide_eq_true_eq] at h
  obtain ⟨h1,h2,h3,h4,h5,h6,h7,h8⟩:=h
  rw [h1,hr.1 h2,h3,h4,h5,h6,h7,h8]
 ·intro h
  rw [List.cons.injEq] at h
  obtain ⟨h1,h2⟩:=h
  have h3:=List.append_inj h2 (by omega)
  obtain ⟨h4,h5⟩:=h3
  simp only [List.cons.injEq,Value.int.injEq,Value.bool.injEq,true_and,and_true] at h5 h1
  simp only [Bool.and_eq_true,decide_eq_true_eq]
  exact ⟨h1,hr.2 h4,h5⟩
end Go.Proofs.YtdnahgfgoajmcaaDoor

namespace Go.Proofs.YtdnahgfgoajmcaaDoor
open Go Go.Abs
abbrev ak (n:Nat):Value := .int .i64 (n:Int)
end Go.Proofs.YtdnahgfgoajmcaaDoor

namespace Go.Proofs.YtdnahgfgoajmcaaDoor
open Go Go.Abs
theorem fT (h:ab) (cs:List Value) (hc:aJ cs=true):box (.agg cs.toArray) h=some (ptr h.next 0,h.alloc cs):=by
 have e:(Value.agg cs.toArray).cells=cs.toArray:=rfl
 unfold box
 rw [e,if_pos (by simpa using hc)]
 simp [Abs.newRow]
theorem mid {k A B C:List Value} {p n:Nat} (h:k=A++(B++C)) (hA:A.length=p) (hB:B.length=n):(k.drop p).take n=B:=by
 subst h hA hB
 rw [List.drop_left,List.take_left]
theorem ldN_mid {h:ab} {b p n:Nat} {k A B C:List Value} (g:h.get b=some k) (e:k=A++(B++C)) (hA:A.length=p) (hB:B.length=n) (nh:Abs.bJ B=true):cT n (ptr b p) h=some (.agg B.toArray,h):=by
 have hm:=mid e hA hB
 have hl:p+n≤k.length:=by rw [e,List.length_append,List.length_append];omega
 have:=ldN_at g (o:=p) (n:=n) hl (by rw [hm];exact nh)
 rw [hm] at this
 exact this
end Go.Proofs.YtdnahgfgoajmcaaDoor

namespace Go.Proofs.YtdnahgfgoajmcaaDoor
open Go Go.Abs
attribute [local congr] aq
theorem sf:(some true==some false)=false:=rfl
theorem fs:(some false==some true)=false:=rfl
end Go.Proofs.YtdnahgfgoajmcaaDoor

namespace Go.Proofs.YtdnahgfgoajmcaaDoor
open Go Go.Abs
attribute [local congr] aq
theorem newC_eq (cs:List Value) (h:ab):dJ cs h=some (ptr h.next 0,h.alloc cs):=rfl
theorem is53:cd Tryd.prog 53 Tryd.f53:=⟨by kernel_rfl,by kernel_rfl,by kernel_rfl,by kernel_rfl⟩
theorem nil22 (a:Option Addr) (n c:Nat):bin Tryd.prog .eql 23 (.slice a n c) (.slice none 0 0)=some (.bool a.isNone):=by cases a<;>kernel_rfl
theorem set_app {A B B':List Value} {i:Nat} {v:Value} (j:Nat) (h:A.length+j=i) (e:B.set j v=B'):(A++B).set i v=A++B':=by
 subst h
 rw [List.set_append_right _ _ (by omega),Nat.add_sub_cancel_left,e]
theorem stN_whole {h:ab} {b:Nat} {k k':Blk} (hk:h.get b=some k) (h0:h.n0≤b) {n:Nat} (hn:k.length=n) (hn':k'.length=n) (ho:aJ k'=true):eT n (ptr b 0) (.agg k'.toArray) h=some (undef,h.set b k'):=by
 unfold eT ptr
 have hc:(Value.agg k'.toArray).cells=k'.toArray:=rfl
 simp only [hc,List.size_toArray,hn',if_true]
 unfold stL
 simp only [hk]
 rw [if_pos (by simp [ho,h0,hn,hn'])]
 have:bK k 0 k'=k':=by simp [bK,hn,hn']
 simp [this]
theorem gtr3 (a k:Nat):bin Tryd.prog .gtr 3 (ak a) (.int .i64 (k:Int))=some (.bool (decide (k<a))):=by
 rw [bp]
 congr 2
 by_cases e:k<a
 ·rw [decide_eq_true e,decide_eq_true (by omega)]
 ·rw [decide_eq_false e,decide_eq_false (by omega)]
end Go.Proofs.YtdnahgfgoajmcaaDoor

namespace Go.Proofs.YtdnahgfgoajmcaaDoor
open Go Go.Abs
section
abbrev u8 (n:Nat):Value := .int .u8 (n:Int)
theorem fF : ∀ l:List Nat,bJ (l.map u8)=true
 | []=>rfl
 |x::l=>by
  have:=fF l
  simp only [bJ,List.map_cons,List.all_cons] at this ⊢
  rw [this];rfl
theorem noHoles_part (l:List Nat) (o n:Nat):bJ (((l.map u8).drop o).take n)=true:=by
 rw [←List.map_drop,←List.map_take];exact fF _
def nat8:Value→Option Nat
 | .int .u8 (.ofNat n)=>if n<256 then some n else none
 |_=>none
theorem nat8_eq {v:Value} {n:Nat} (h:nat8 v=some n):v=u8 n∧n<256:=by
 unfold nat8 at h
 split at h
 ·split at h
  ·cases h;exact ⟨rfl,by assumption⟩
  ·cases h
 ·cases h
def bytesOf:List Value→Option (List Nat)
 | []=>some []
 |v::l=>match nat8 v,bytesOf l with
  |some n,some r=>some (n::r)
  |_,_=>none
theorem bytesOf_eq : ∀ {l:List Value} {r:List Nat},bytesOf l=some r→l=r.map u8 ∧ ∀ n∈r,n<256
 | [],r,h=>by cases h;exact ⟨rfl,by simp⟩
 |v::l,r,h=>by
  unfold bytesOf at h
  split at h
  ·rename_i n r' h1 h2
   cases h
   obtain ⟨rfl,h3⟩:=nat8_eq h1
   obtain ⟨rfl,h4⟩:=bytesOf_eq h2
   refine ⟨rfl,fun m hm => ?_⟩
   rcases List.mem_cons.1 hm with rfl|hm
   ·exact h3
   ·exact h4 m hm
  ·cases h
theorem bytesOf_map : ∀ {r:List Nat},(∀ n∈r,n<256)→bytesOf (r.map u8)=some r
 | [],_=>rfl
 |n::r,h=>by
  have h1:nat8 (u8 n)=some n:=by
   show (if n<256 then some n else none)=some n
   rw [if_pos (h n List.mem_cons_self)]
  simp -implicitDefEqProofs only [List.map_cons,bytesOf,h1,bytesOf_map (r:=r) (fun m hm=>h m (List.mem_cons_of_mem _ hm))]
def au (a:Option Addr) (n:Nat) (h:ab):Option (List Nat):=(bc 1 n (.slice a n n) h).bind bytesOf
theorem aE {a:Option Addr} {n:Nat} {h:ab} {l:List Nat} (e:au a n h=some l) :
  l.length=n∧(∀ m∈l,m<256)∧(0<n → ∃ b off s k,a=some ⟨b,off,s⟩∧h.get b=some k∧off+n≤k.length ∧ ∀ i,i<n→k[off+i]? = some (u8 (l.getD i 0))):=by
 unfold au at e
 rw [Option.bind_eq_some_iff] at e
 obtain ⟨cs,h1,h2⟩:=e
 obtain ⟨rfl,h3⟩:=bytesOf_eq h2
 unfold bc at h1
 split at h1
 ·split at h1
  ·rename_i hn
   simp -implicitDefEqProofs only [Option.some.injEq] at h1
   have:l = []:=by cases l with|nil=>rfl|cons=>simp at h1
   subst this;subst hn
   exact ⟨rfl,h3,fun h=>absurd h (by omega)⟩
  ·cases h1
 ·rename_i b off s _ _ heq
  split at h1
  ·rename_i hn
   simp -implicitDefEqProofs only [Option.some.injEq] at h1
   have:l = []:=by cases l with|nil=>rfl|cons=>simp at h1
   subst this
   have:n=0:=by omega
   subst this
   exact ⟨rfl,h3,fun h=>absurd h (by omega)⟩
  ·split at h1
   ·rename_i k hk
    split at h1
    ·rename_i hl0
     have hl:=hl0.1
     rw [Nat.mul_one] at h1 hl
     simp -implicitDefEqProofs only [Option.some.injEq] at h1
     have hlen:l.length=n:=by
      have:=congrArg List.length h1
      simp -implicitDefEqProofs only [List.length_map,List.length_take,List.length_drop] at this
      omega
     refine ⟨hlen,h3,fun _=>⟨b,off,s,k,?_,hk,hl,?_⟩⟩
     ·cases heq;rfl
     ·intro i hi
      have h4:=congrArg (·[i]?) h1
      simp -implicitDefEqProofs only [List.getElem?_take,hi,if_true,List.getElem?_drop,List.getElem?_map] at h4
      rw [h4,List.getD_eq_getElem?_getD,List.getElem?_eq_getElem (by omega)]
      rfl
    ·cases h1
   ·cases h1
 ·cases (show Value.slice a n n = .string _ by assumption)
 ·cases h1
theorem gf {a:Option Addr} {n:Nat} {h h':ab} {l:List Nat} (e:au a n h=some l) (hm : ∀ b k,h.get b=some k→h'.get b=some k):au a n h'=some l:=by
 unfold au at e ⊢
 rw [Option.bind_eq_some_iff] at e ⊢
 obtain ⟨cs,h1,h2⟩:=e
 refine ⟨cs,?_,h2⟩
 unfold bc at h1 ⊢
 split at h1
 ·exact h1
 ·split at h1
  ·rw [if_pos (by assumption)];exact h1
  ·rw [if_neg (by assumption)]
   split at h1
   ·rename_i k hk
    rw [hm _ _ hk];exact h1
   ·cases h1
 ·cases (show Value.slice a n n = .string _ by assumption)
 ·cases h1
end
section
section bytes
theorem one_u8 : ∀ l:List Nat,aJ (l.map u8)=true
 | []=>rfl
 |x::l=>by
  have:=one_u8 l
  simp only [aJ,List.map_cons,List.all_cons] at this ⊢
  rw [this];rfl
theorem gD {a:Option Addr} {n c:Nat} {h:ab} {l:List Nat} (e:au a n h=some l) {m:Nat} (hm:m≤n):bc 1 m (.slice a n c) h=some ((l.take m).map u8):=by
 unfold au at e
 rw [Option.bind_eq_some_iff] at e
 obtain ⟨cs,h1,h2⟩:=e
 obtain ⟨rfl,h3⟩:=bytesOf_eq h2
 cases a with
 |none=>
  simp only [bc] at h1 ⊢
  split at h1
  ·cases l with
   |nil=>simp;omega
   |cons=>simp at h1
  ·cases h1
 |some x=>
  obtain ⟨b,off,s⟩:=x
  simp only [bc,Nat.mul_one] at h1 ⊢
  by_cases hm0:m=0
  ·subst hm0;simp
  ·rw [if_neg hm0]
   rw [if_neg (by omega)] at h1
   cases hk:h.get b with
   |none=>rw [hk] at h1;cases h1
   |some k=>
    rw [hk] at h1
    simp only at h1 ⊢
    split at h1
    ·rename_i hl0
     have hl1:=hl0.1
     simp only [Option.some.injEq] at h1
     have hk2:List.take m (List.drop off k)=(l.take m).map u8:=by rw [List.map_take,←h1,List.take_take,Nat.min_eq_left hm]
     rw [if_pos ⟨by omega,by rw [hk2];exact fF _⟩,hk2]
    ·cases h1
end bytes
end
section
def gF (a:Option Addr) (n c:Nat):Bool:=Nat.ble n c&&(match a with|some ⟨_,_,some s⟩=>s==1|_=>true)
theorem goodS_le {a:Option Addr} {n c:Nat} (h:gF a n c=true):n≤c:=by
 unfold gF at h
 rw [Bool.and_eq_true] at h
 exact Nat.le_of_ble_eq_true h.1
theorem sliceBytes_sub {b off n lo hi:Nat} {s s':Option Nat} {h:ab} {l:List Nat} (e:au (some ⟨b,off,s⟩) n h=some l) (h1:lo≤hi) (h2:hi≤n) :
  au (some ⟨b,off+lo,s'⟩) (hi-lo) h=some ((l.drop lo).take (hi-lo)):=by
 obtain ⟨hl,hb,hat⟩:=aE e
 unfold au
 rw [Option.bind_eq_some_iff]
 refine ⟨((l.drop lo).take (hi-lo)).map u8,?_,bytesOf_map (fun x hx=>hb x (List.mem_of_mem_drop (List.mem_of_mem_take hx)))⟩
 simp only [bc,Nat.mul_one]
 by_cases h0:hi-lo=0
 ·rw [if_pos h0,h0];rfl
 ·rw [if_neg h0]
  obtain ⟨b',off',s'',k,hx,hk,hkl,hk2⟩:=hat (by omega)
  cases hx
  simp only [hk]
  have hcells:(k.drop (off+lo)).take (hi-lo)=((l.drop lo).take (hi-lo)).map u8:=by
   apply List.ext_getElem?
   intro i
   rw [List.getElem?_take,List.getElem?_map,List.getElem?_take,List.getElem?_drop,List.getElem?_drop]
   by_cases hi2:i<hi-lo
   ·rw [if_pos hi2,if_pos hi2,Nat.add_assoc,hk2 (lo+i) (by omega),List.getD_eq_getElem?_getD,List.getElem?_eq_getElem (by omega)]
    rfl
   ·rw [if_neg hi2,if_neg hi2];rfl
  rw [hcells,if_pos ⟨by omega,fF _⟩]
theorem slR_bytes {a:Option Addr} {n c lo hi:Nat} {vl vh:Option Value} {h:ab} {l:List Nat} (g:gF a n c=true) (e:au a n h=some l) (h1:lo≤hi) (h2:hi≤n) (hh:bE n c vh=some hi) (hl:bE 0 hi vl=some lo) :
  ∃ a' c',slR 1 (.slice a n c) vl vh none=some (.slice a' (hi-lo) c')∧au a' (hi-lo) h=some ((l.drop lo).take (hi-lo))∧gF a' (hi-lo) c'=true∧(∀ y,a'=some y → ∃ y0,a=some y0∧y0.block=y.block):=by
 have hn:=goodS_le g
 have hb:cm n c vl vh none=some (lo,hi,c):=by
  unfold cm
  have:bE c c none=some c:=rfl
  rw [this]
  simp only [hh,hl]
 have hble:Nat.ble (hi-lo) (c-lo)=true:=Nat.ble_eq_true_of_le (by omega)
 cases a with
 |none=>
  have hl0:l = []:=by
   unfold au bc at e
   by_cases hz:n=0
   ·subst hz
    obtain ⟨h3,_⟩:=aE (a:=none) (n:=0) (h:=h) (l:=l) (by unfold au bc;exact e)
    exact List.length_eq_zero_iff.1 h3
   ·simp only [hz,if_false,Option.bind_none] at e;cases e
  have hn0:n=0:=by
   have:=(aE e).1
   rw [hl0] at this;exact this.symm
  subst hn0
  have:hi=0:=by omega
  subst this
  have:lo=0:=by omega
  subst this
  refine ⟨none,c-0,?_,?_,?_,fun y hy=>(by cases hy)⟩
  ·unfold slR dP
   simp only [hb]
  ·subst hl0;rfl
  ·unfold gF;simp
 |some x=>
  obtain ⟨b,off,s⟩:=x
  cases s with
  |none=>
   refine ⟨some ⟨b,if c=lo then off else off+lo*1,none⟩,c-lo,?_,?_,?_,fun y hy=>⟨_,rfl,(by cases hy;rfl)⟩⟩
   ·unfold slR dP
    simp only [hb]
   ·by_cases hc:c=lo
    ·have h3:hi-lo=0:=by omega
     rw [if_pos hc,h3]
     have:(l.drop lo).take 0 = []:=rfl
     rw [this]
     unfold au bc;simp;rfl
    ·rw [if_neg hc,Nat.mul_one]
     exact sliceBytes_sub e h1 h2
   ·unfold gF;rw [hble];rfl
  |some s=>
   have hs:s=1:=by
    unfold gF at g
    rw [Bool.and_eq_true] at g
    exact eq_of_beq g.2
   subst hs
   refine ⟨some ⟨b,off+lo*1,some 1⟩,c-lo,?_,?_,?_,fun y hy=>⟨_,rfl,(by cases hy;rfl)⟩⟩
   ·unfold slR dP
    simp [hb]
   ·rw [Nat.mul_one];exact sliceBytes_sub e h1 h2
   ·unfold gF;rw [hble];rfl
theorem sliceBytes_congr {a:Option Addr} {n:Nat} {h h':ab} (e : ∀ x,a=some x→h'.get x.block=h.get x.block):au a n h'=au a n h:=by
 unfold au bc
 cases a with
 |none=>rfl
 |some x=>simp only [e x rfl]
end
section
theorem cK {h:ab} {b off n:Nat} {s:Option Nat} {l:List Nat} (hg:h.get b=some (l.map u8)) (hl:off+n≤l.length) (hb : ∀ x∈l,x<256):au (some ⟨b,off,s⟩) n h=some ((l.drop off).take n):=by
 unfold au
 rw [Option.bind_eq_some_iff]
 refine ⟨((l.drop off).take n).map u8,?_,bytesOf_map (fun y hy=>hb y (List.mem_of_mem_drop (List.mem_of_mem_take hy)))⟩
 simp only [bc,hg,Nat.mul_one]
 by_cases h0:n=0
 ·rw [if_pos h0,h0];rfl
 ·rw [if_neg h0,if_pos ⟨by simpa using hl,noHoles_part _ _ _⟩]
  simp
end
section
theorem bsl_bytes (h:ab):cO 1 (.int .u8 0) 0 [] h=some (.slice (some ⟨h.next,0,none⟩) 0 0,h.alloc []):=rfl
end
section
theorem append_fresh {g:ab} {E:Nat} {a:Option Addr} {n c:Nat} {l:List Nat} (_hE:g.n0≤E) (hl:au a n g=some l) (hn:n≤21000) :
  ∃ b s c' g',aD 1 1 (.slice (some ⟨E,0,none⟩) 0 0) (.slice a n c) g=some (.slice (some ⟨b,0,s⟩) n c',g')∧au (some ⟨b,0,s⟩) n g'=some l∧gF (some ⟨b,0,s⟩) n c'=true∧(b=E∨(b=g.next∧g.next<g'.next)) ∧
    g'.n0=g.n0∧g.next≤g'.next∧(∀ e,e<g.next→g'.aF e=g.aF e):=by
 obtain ⟨hlen,hb,_⟩:=aE hl
 have hf:=gD hl (Nat.le_refl n) (c:=c)
 rw [List.take_of_length_le (by omega)] at hf
 have hcond:(!(aJ (l.map u8)) || !(decide ((0+n)*1≤140737488355328)) || !(decide (0+n≤4611686018427387904))||decide ((l.map u8).length≠n*1))=false:=by
  rw [one_u8,decide_eq_true (by omega:(0+n)*1≤140737488355328),decide_eq_true (by omega:0+n≤4611686018427387904),decide_eq_false (by simp;omega)];rfl
 unfold aD
 simp only [lenA,hf]
 rw [if_neg (by rw [hcond];decide)]
 by_cases h0:n=0
 ·subst h0
  have:l = []:=List.length_eq_zero_iff.1 hlen
  subst this
  rw [if_pos (by omega),if_pos rfl]
  exact ⟨E,none,0,g,rfl,rfl,rfl,.inl rfl,rfl,Nat.le_refl _,fun _ _=>rfl⟩
 ·rw [if_neg (by omega)]
  have f0:bc 1 0 (.slice (some ⟨E,0,none⟩) 0 0) g=some []:=rfl
  simp only [f0]
  rw [if_neg (by simp)]
  refine ⟨g.next,some 1,0+n,g.alloc ([]++l.map u8),by rw [Nat.zero_add],?_,?_,.inr ⟨rfl,by simp⟩,rfl,by simp,?_⟩
  ·rw [List.nil_append,cK (l:=l) (by rw [ab.aK,if_pos rfl]) (by omega) hb,List.drop_zero,List.take_of_length_le (by omega)]
  ·unfold gF
   rw [Nat.zero_add]
   simp
  ·intro e he
   rw [ab.cA,if_neg (by omega)]
end
section
theorem Old.bytes {h h':ab} (o:Old h h') {a:Option Addr} {n:Nat} {l:List Nat} (e:au a n h=some l):au a n h'=some l:=gf e fun _ _=>o.get
theorem r69b {a:Option Addr} {n c:Nat} {l:List Nat} {h:ab} (hG:4≤h.n0) (hl:au a n h=some l) (hn:n≤21000) :
  ∃ a' c' h',CW 53 [.slice a n c] h=some (.slice a' n c',h')∧au a' n h'=some l∧gF a' n c'=true∧Old h h'∧(∀ y,a'=some y→h.next≤y.block∧y.block<h'.next)∧(a'.isNone=a.isNone):=by
 cases a with
 |none=>
  have h0:n=0:=by
   obtain ⟨h1,_,h3⟩:=aE hl
   by_cases hz:n=0
   ·exact hz
   ·obtain ⟨_,_,_,_,h4,_⟩:=h3 (by omega);cases h4
  subst h0
  refine ⟨none,0,h,aC is53 hG rfl ((t53_eq _ _ _).trans ?_),hl,rfl,Kept.refl _ _,fun y hy=>by (cases hy),rfl⟩
  unfold t53
  simp -implicitDefEqProofs only [ad,nil22,af,Option.isNone_none]
 |some x=>
  have hl1:au (some x) n (h.alloc [])=some l:=gf hl fun _ _ hc=>ab.gJ hc _
  obtain ⟨b,s,c',g',e1,e2,e3,e4,e5,e6,e7⟩:=append_fresh (g:=h.alloc []) (E:=h.next) (c:=c) h.ax hl1 hn
  refine ⟨some ⟨b,0,s⟩,c',g',aC is53 hG rfl ((t53_eq _ _ _).trans ?_),e2,e3,(Kept.alloc h [] _).trans ⟨e5,e6,fun d hd _=>e7 d hd⟩,?_,rfl⟩
  ·unfold t53
   simp -implicitDefEqProofs only [ad,nil22,af,Option.isNone_some,bsl_bytes,e1]
  ·intro y hy
   cases hy
   have hn1:(h.alloc []).next=h.next+1:=by simp
   show h.next≤b∧b<g'.next
   rcases e4 with e4|⟨e4,e8⟩
   ·omega
   ·omega
theorem _root_.Go.Abs.Kept.bytes {h h':ab} {B:Nat→Prop} (k:Kept h h' B) {a:Option Addr} {n:Nat} {l:List Nat} (e:au a n h=some l) (hb : ∀ y,a=some y→0<n → ¬B y.block):au a n h'=some l:=by
 by_cases h0:n=0
 ·subst h0
  obtain ⟨hl,_,_⟩:=aE e
  have:l = []:=List.length_eq_zero_iff.1 hl
  subst this
  cases a with
  |none=>rfl
  |some x=>unfold au bc;simp;rfl
 ·obtain ⟨_,_,h3⟩:=aE e
  obtain ⟨b,off,s,c,rfl,hc,_⟩:=h3 (by omega)
  rw [sliceBytes_congr (h:=h) (fun y hy=>by cases hy;exact k.get b (h.aP hc) (hb _ rfl (by omega)))]
  exact e
structure IsR (h:ab) (p r:Nat) (l:List Nat) (e:Int):Prop where
 ex : ∃ a n c,h.get r=some [.slice a n c,.int .i64 e]∧au a n h=some l∧gF a n c=true ∧ ∀ y,a=some y→p≤y.block∧y.block<r
 n0:h.n0≤r
 len:l.length≤21000
 g4:4≤h.n0
 pr:p≤r
def be (l:List Nat):Nat:=l.foldl (fun v x=>v*256+x) 0
end
section
section
variable {p r:Nat} {l:List Nat} {h:ab} (R:IsR h p r l 0)
include R
end
end
end Go.Proofs.YtdnahgfgoajmcaaDoor

namespace Go.Proofs.YtdnahgfgoajmcaaDoor
open Go Go.Abs
attribute [local congr] aq
end Go.Proofs.YtdnahgfgoajmcaaDoor

namespace Go.Proofs.YtdnahgfgoajmcaaDoor
open Go Go.Abs
section
theorem getB_kill {h:ab} {L:Nat} (h0:h.n0≤L) (hn:L<h.next) {c:Nat} (hc:c≠L):(h.kill L).aF c=h.aF c:=by
 unfold ab.kill
 rw [ab.cM h h0 hn,if_neg hc]
end
section
end
section
theorem setPlain {h:ab} {b:Nat} {k k':Blk} (hk:h.get b=some k) (h0:h.n0≤b):Kept h (h.set b k') (fun c=>c=b)∧(h.set b k').get b=some k':=⟨Kept.set h0 hk (.inr rfl),ab.eD h0 hk _⟩
end
section
def eZ:Value→Option Nat
 | .slice (some a) _ _=>some a.block
 |_=>none
def OwnC (h:ab) (N size:Nat) (v:Value) (len:Nat) (cells:List Value):Prop:=
 cells.length=len*size∧Abs.bJ cells=true∧aJ cells=true ∧
 ((v = .slice none 0 0∧len=0) ∨ ∃ b s,v = .slice (some ⟨b,0,s⟩) len len∧N≤b∧((s=none∧len=0)∨(s=some size∧h.get b=some cells)))
theorem OwnC.nil (h:ab) (N size:Nat):OwnC h N size (.slice none 0 0) 0 []:=⟨by simp,rfl,rfl,.inl ⟨rfl,rfl⟩⟩
theorem OwnC.keep {h h':ab} {N size:Nat} {v:Value} {len:Nat} {cells:List Value} (o:OwnC h N size v len cells) {B:Nat→Prop} (k:Kept h h' B) (hB : ∀ b,eZ v=some b → ¬B b):OwnC h' N size v len cells:=by
 obtain ⟨h1,h2,h3,h4⟩:=o
 refine ⟨h1,h2,h3,?_⟩
 rcases h4 with h4|⟨b,s,rfl,h5,h6|⟨h6,h7⟩⟩
 ·exact .inl h4
 ·exact .inr ⟨b,s,rfl,h5,.inl h6⟩
 ·exact .inr ⟨b,s,rfl,h5,.inr ⟨h6,k.dX h7 (hB b rfl)⟩⟩
theorem gZ (a b:List Value) (ha:Abs.bJ a=true) (hb:Abs.bJ b=true):Abs.bJ (a++b)=true:=by
 unfold Abs.bJ at *
 rw [List.all_append,ha,hb];rfl
theorem gh (a b:List Value) (ha:aJ a=true) (hb:aJ b=true):aJ (a++b)=true:=by
 unfold aJ at *
 rw [List.all_append,ha,hb];rfl
theorem append_own {h:ab} {N size by_ len m:Nat} {v x:Value} {cells news:List Value} (o:OwnC h N size v len cells) (h0:h.n0≤N) (hN:N≤h.next) (_hs:0<size) (hx:lenA x=some m) (hf:bc size m x h=some news)
  (h1:aJ news=true) (h2:Abs.bJ news=true) (hl:news.length=m*size) (hb:(len+m)*by_≤140737488355328) (hc:len+m≤4611686018427387904) :
  ∃ v' h',aD size by_ v x h=some (v',h')∧OwnC h' N size v' (len+m) (cells++news)∧Kept h h' (fun c=>eZ v=some c∧h.get c=some cells)∧(v'=v∨(eZ v'=some h.next∧h.next<h'.next)):=by
 have o':=o
 obtain ⟨o1,o2,o3,o4⟩:=o
 have hcond : ∀ len':Nat,len'=len→(!(aJ news) || !(decide ((len'+m)*by_≤140737488355328)) || !(decide (len'+m≤4611686018427387904))||decide (news.length≠m*size))=false:=by
  rintro _ rfl
  rw [h1,decide_eq_true hb,decide_eq_true hc,decide_eq_false (by omega)];rfl
 by_cases hm:m=0
 ·subst hm
  have hn:news = []:=List.length_eq_zero_iff.1 (by omega)
  subst hn
  have ho:OwnC h N size v (len+0) (cells ++ []):=by rw [List.append_nil];exact o'
  refine ⟨v,h,?_,ho,Kept.refl _ _,.inl rfl⟩
  rcases o4 with ⟨rfl,rfl⟩|⟨b,s,rfl,h5,h6⟩
  ·unfold aD
   simp only [hx,hf]
   rw [if_neg (by rw [hcond 0 rfl];decide),if_pos (by omega),if_pos trivial]
  ·unfold aD
   simp only [hx,hf]
   rw [if_neg (by rw [hcond len rfl];decide),if_pos (by omega),if_pos trivial]
 ·have fresh : ∀ cs:List Value,cs = []→len=0→OwnC (h.alloc news) N size (.slice (some ⟨h.next,0,some size⟩) (len+m) (len+m)) (len+m) (cs++news):=by
   rintro _ rfl rfl
   exact ⟨by simpa using hl,by simpa using h2,by simpa using h1,.inr ⟨h.next,_,rfl,hN,.inr ⟨rfl,by rw [ab.aK,if_pos rfl];rfl⟩⟩⟩
  rcases o4 with ⟨rfl,rfl⟩|⟨b,s,rfl,h5,⟨rfl,rfl⟩|⟨rfl,h6⟩⟩
  ·have hce:cells = []:=List.length_eq_zero_iff.1 (by simpa using o1)
   refine ⟨_,_,?_,fresh cells hce rfl,Kept.alloc _ _ _,.inr ⟨rfl,by simp⟩⟩
   unfold aD
   simp only [hx,hf]
   rw [if_neg (by rw [hcond 0 rfl];decide),if_neg (by omega),if_pos trivial]
  ·have hce:cells = []:=List.length_eq_zero_iff.1 (by simpa using o1)
   refine ⟨_,_,?_,fresh cells hce rfl,Kept.alloc _ _ _,.inr ⟨rfl,by simp⟩⟩
   unfold aD
   simp only [hx,hf]
   have f0:bc size 0 (.slice (some ⟨b,0,none⟩) 0 0) h=some []:=by simp [bc]
   rw [if_neg (by rw [hcond 0 rfl];decide),if_neg (by omega)]
   simp only [f0]
   rw [if_neg (by simp)];rfl
  ·have hf2:bc size len (.slice (some ⟨b,0,some size⟩) len len) h=some cells:=by
    simp only [bc]
    by_cases hz:len*size=0
    ·rw [if_pos hz]
     have:cells = []:=List.length_eq_zero_iff.1 (by omega)
     rw [this]
    ·rw [if_neg hz]
     simp only [h6]
     have e:(cells.drop 0).take (len*size)=cells:=by rw [List.drop_zero,List.take_of_length_le (by omega)]
     simp only [e]
     rw [if_pos ⟨by omega,o2⟩]
   have hlt:=h.aP h6
   have hk : ∀ c,c<h.next→c≠b→((h.kill b).alloc (cells++news)).aF c=h.aF c:=by
    intro c hc hne
    rw [ab.cA,if_neg (by rw [ab.gA];omega)]
    exact getB_kill (by omega) hlt hne
   refine ⟨.slice (some ⟨h.next,0,some size⟩) (len+m) (len+m),(h.kill b).alloc (cells++news),?_,⟨by rw [List.length_append,o1,hl,Nat.add_mul],gZ _ _ o2 h2,gh _ _ o3 h1,.inr ⟨h.next,_,rfl,hN,.inr ⟨rfl,?_⟩⟩⟩,⟨rfl,by simp,fun c hc hB=>hk c hc (fun e=>hB (by rw [e];exact ⟨rfl,h6⟩))⟩,.inr ⟨rfl,by simp⟩⟩
   ·unfold aD
    simp only [hx,hf]
    rw [if_neg (by rw [hcond len rfl];decide),if_neg (by omega)]
    simp only [hf2]
    rw [if_neg (by simp [o1]),if_pos (by simp [h6];omega)]
   ·rw [ab.aK,if_pos (by rw [ab.gA])]
structure ep (h:ab) (N:Nat) (v:Value) (l:List Nat):Prop where
 own:OwnC h N 1 v l.length (l.map u8)
 byte : ∀ x∈l,x<256
theorem ep.nil (h:ab) (N:Nat):ep h N (.slice none 0 0) []:=⟨.nil h N 1,by simp⟩
theorem ep.keep {h h':ab} {N:Nat} {v:Value} {l:List Nat} (o:ep h N v l) {B:Nat→Prop} (k:Kept h h' B) (hB : ∀ b,eZ v=some b → ¬B b):ep h' N v l:=⟨o.own.keep k hB,o.byte⟩
theorem ep.bytes {h:ab} {N:Nat} {v:Value} {l:List Nat} (o:ep h N v l) : ∃ a c,v = .slice a l.length c∧au a l.length h=some l∧gF a l.length c=true∧(∀ y,a=some y→N≤y.block)∧(∀ y,a=some y→eZ v=some y.block):=by
 obtain ⟨⟨o1,o2,o3,o4⟩,ob⟩:=o
 rcases o4 with ⟨rfl,h4⟩|⟨b,s,rfl,h5,⟨rfl,h4⟩|⟨rfl,h6⟩⟩
 ·have:l = []:=List.length_eq_zero_iff.1 h4
  subst this
  exact ⟨none,0,rfl,rfl,rfl,fun y hy=>(by cases hy),fun y hy=>(by cases hy)⟩
 ·have:l = []:=List.length_eq_zero_iff.1 h4
  subst this
  exact ⟨_,_,rfl,rfl,rfl,fun y hy=>(by cases hy;exact h5),fun y hy=>(by cases hy;rfl)⟩
 ·refine ⟨_,_,rfl,?_,?_,fun y hy=>by cases hy;exact h5,fun y hy=>by cases hy;rfl⟩
  ·have:=cK (off:=0) (n:=l.length) (s:=some 1) h6 (by omega) ob
   rw [this,List.drop_zero,List.take_of_length_le (Nat.le_refl _)]
  ·unfold gF
   rw [Nat.ble_eq_true_of_le (Nat.le_refl _)];rfl
theorem append_ownB {h:ab} {N n c:Nat} {v:Value} {l m:List Nat} {a:Option Addr} (o:ep h N v l) (h0:h.n0≤N) (hN:N≤h.next) (hm:au a n h=some m) (hb:l.length+n≤100000000) :
  ∃ v' h',aD 1 1 v (.slice a n c) h=some (v',h')∧ep h' N v' (l++m)∧Kept h h' (fun c=>eZ v=some c)∧(v'=v∨(eZ v'=some h.next∧h.next<h'.next)):=by
 obtain ⟨hl,hbt,_⟩:=aE hm
 have hf:=gD hm (Nat.le_refl n) (c:=c)
 rw [List.take_of_length_le (by omega)] at hf
 obtain ⟨v',h',e1,e2,e3,e4⟩:=append_own (by_:=1) o.own h0 hN (by decide) (show lenA (.slice a n c)=some n from rfl) hf (one_u8 _) (fF _) (by simp [hl]) (by omega) (by omega)
 refine ⟨v',h',e1,⟨?_,?_⟩,e3.mono (fun c _ hc=>hc.1),e4⟩
 ·rw [List.length_append,List.map_append,hl];exact e2
 ·intro x hx
  rcases List.mem_append.1 hx with hx|hx
  ·exact o.byte x hx
  ·exact hbt x hx
end
section
theorem sub3 {a b:Nat} (h:b≤a) (h2:a≤9223372036854775807):bin Tryd.prog .sub 3 (ak a) (ak b)=some (ak (a-b)):=by
 unfold ak;rw [eK,wrap_i64 (by omega) (by omega)];exact congrArg (fun q=>some (Value.int .i64 q)) (by omega)
end
section
structure IsW (h:ab) (N w lim:Nat) (l:List Nat):Prop where
 ex : ∃ v,h.get w=some [ak lim,.bool false,v]∧ep h N v l∧eZ v≠some w ∧ ∀ b,eZ v=some b→b<h.next
 n0:h.n0≤N
 Nw:N≤w
 small:lim≤100000
 g4:4≤h.n0
def wb (h:ab) (w:Nat):Option Nat:=match h.get w with
 |some [_,_,v]=>eZ v
 |_=>none
def Fr (h:ab) (w b:Nat):Prop:=b<h.next∧b≠w∧wb h w≠some b
structure WS (w:Nat) (h h':ab):Prop where
 n0:h'.n0=h.n0
 next:h.next≤h'.next
 aF : ∀ b,Fr h w b→h'.aF b=h.aF b
 fr : ∀ b,Fr h w b→Fr h' w b
theorem WS.get {w:Nat} {h h':ab} (x:WS w h h') (b:Nat) (f:Fr h w b):h'.get b=h.get b:=by
 unfold ab.get
 rw [x.aF b f]
theorem WS.refl (w:Nat) (h:ab):WS w h h:=⟨rfl,Nat.le_refl _,fun _ _=>rfl,fun _ f=>f⟩
theorem WS.trans {w:Nat} {a b c:ab} (x:WS w a b) (y:WS w b c):WS w a c:=⟨y.n0.trans x.n0,Nat.le_trans x.next y.next,fun d f=>(y.aF d (x.fr d f)).trans (x.aF d f),fun d f=>y.fr d (x.fr d f)⟩
theorem WS.of_old {w:Nat} {h h':ab} (hw:w<h.next) (o:Old h h'):WS w h h':=⟨o.n0,o.next,fun b f=>Kept.aF o b f.1 (fun h=>h),fun b f=>⟨Nat.lt_of_lt_of_le f.1 o.next,f.2.1,by
 have:wb h' w=wb h w:=by
  unfold wb
  rw [Kept.get o w hw (fun h=>h)]
 rw [this];exact f.2.2⟩⟩
theorem WS.bytes {w:Nat} {h h':ab} (k:WS w h h') {a:Option Addr} {n:Nat} {l:List Nat} (e:au a n h=some l) (hb : ∀ y,a=some y→0<n→Fr h w y.block):au a n h'=some l:=by
 by_cases h0:n=0
 ·subst h0
  obtain ⟨hl,_,_⟩:=aE e
  have:l = []:=List.length_eq_zero_iff.1 hl
  subst this
  cases a with
  |none=>rfl
  |some x=>unfold au bc;simp;rfl
 ·obtain ⟨_,_,h3⟩:=aE e
  obtain ⟨b,off,s,c,rfl,hc,_⟩:=h3 (by omega)
  rw [sliceBytes_congr (h:=h) (fun y hy=>by cases hy;exact k.get b (hb _ rfl (by omega)))]
  exact e
theorem IsW.lt {h:ab} {N w lim:Nat} {l:List Nat} (W:IsW h N w lim l):w<h.next:=by
 obtain ⟨v,h1,_⟩:=W.ex
 exact h.aP h1
theorem ep.cell {h:ab} {N:Nat} {v:Value} {l:List Nat} (o:ep h N v l):v.cells = #[v]∧v.oneCell'=true∧isHole v=false:=by
 obtain ⟨a,c,rfl,_⟩:=o.bytes
 exact ⟨rfl,rfl,rfl⟩
theorem w_append {h:ab} {N w lim:Nat} {l m:List Nat} {a:Option Addr} {n c:Nat} (W:IsW h N w lim l) (hm:au a n h=some m) (hb:l.length+n≤100000) :
  ∃ v v' g g',ld1 (ptr w 2) h=some (v,h)∧aD 1 1 v (.slice a n c) h=some (v',g)∧eT 1 (ptr w 2) v' g=some (undef,g')∧IsW g' N w lim (l++m)∧WS w h g':=by
 obtain ⟨v,h1,h2,h3,hbn⟩:=W.ex
 have hlt:=W.lt
 have hNw:=W.Nw
 obtain ⟨v',g,e1,e2,e3,e4⟩:=append_ownB (c:=c) h2 W.n0 (by omega) hm (by omega)
 have hg:=e3.dX h1 h3
 obtain ⟨c1,c2,c3⟩:=e2.cell
 have n0g:g.n0≤w:=by rw [e3.n0];have:=W.n0;omega
 have hst:eT 1 (ptr w 2) v' g=some (undef,g.set w [ak lim,.bool false,v']):=stN1_at hg (by simp) n0g c1 c2
 obtain ⟨k2,k3⟩:=setPlain (k' := [ak lim,.bool false,v']) hg n0g
 have hv':eZ v'≠some w:=by
  rcases e4 with rfl|⟨e4,_⟩
  ·exact h3
  ·rw [e4];intro he;cases he;omega
 refine ⟨v,v',g,_,aQ h1 rfl (h2.cell.2.2),e1,hst,⟨⟨v',k3,e2.keep k2 (fun b hb hc=>by subst hc;exact hv' hb),hv',fun b hb=>by
  rcases e4 with rfl|⟨e4,e5⟩
  ·exact Nat.lt_of_lt_of_le (hbn b hb) (Nat.le_trans e3.next k2.next)
  ·rw [e4] at hb
   cases hb
   exact Nat.lt_of_lt_of_le e5 k2.next⟩,?_,hNw,W.small,by rw [k2.n0,e3.n0];exact W.g4⟩,⟨k2.n0.trans e3.n0,Nat.le_trans e3.next k2.next,fun b f => ?_,fun b f=>⟨Nat.lt_of_lt_of_le f.1 (Nat.le_trans e3.next k2.next),f.2.1,?_⟩⟩⟩
 ·rw [k2.n0,e3.n0];exact W.n0
 ·have hwb:wb h w=eZ v:=by unfold wb;rw [h1]
  have f3:=f.2.2
  rw [hwb] at f3
  exact (k2.aF b (Nat.lt_of_lt_of_le f.1 e3.next) f.2.1).trans (e3.aF b f.1 f3)
 ·have hwb:wb h w=eZ v:=by unfold wb;rw [h1]
  have f3:=f.2.2
  rw [hwb] at f3
  have hwb':wb (g.set w [ak lim,.bool false,v']) w=eZ v':=by unfold wb;rw [k3]
  rw [hwb']
  rcases e4 with rfl|⟨e4,_⟩
  ·exact f3
  ·rw [e4]
   intro he
   cases he
   have:=f.1
   omega
theorem is87:cd Tryd.prog 87 Tryd.f87:=⟨by kernel_rfl,by kernel_rfl,by kernel_rfl,by kernel_rfl⟩
theorem r87 (h:ab) (hG:4≤h.n0) {lim:Nat} (hl:lim≤100000) : ∃ h',CW 87 [ak lim] h=some (ptr h.next 0,h')∧IsW h' h.next h.next lim []∧Old h h' ∧ ∀ b,b<h.next→Fr h' h.next b:=by
 have hmx:eY true (.int .i64 0) [ak lim]=some (ak lim):=by
  simp only [eY,ak,if_true]
  by_cases h0:(lim:Int)>0
  ·rw [if_pos (by simpa using h0)]
  ·have:lim=0:=by omega
   subst this;rfl
 have hb:eW [(.int .i64 0),(.bool false),(.slice none 0 0)] [(0,1,ak lim)]=some (.agg [ak lim,.bool false,.slice none 0 0].toArray):=rfl
 refine ⟨h.alloc [ak lim,.bool false,.slice none 0 0],aC is87 hG rfl ((t87_eq _ _ _).trans ?_),⟨⟨.slice none 0 0,by rw [ab.aK,if_pos rfl],.nil _ _,(by intro h;cases h),(by intro b h;cases h)⟩,h.ax,Nat.le_refl _,hl,hG⟩,Kept.alloc _ _ _,fun b hb=>⟨by rw [ab.cn];omega,by omega,by
  have:wb (h.alloc [ak lim,.bool false,.slice none 0 0]) h.next=none:=by unfold wb;rw [ab.aK,if_pos rfl];rfl
  rw [this];intro h;cases h⟩⟩
 unfold t87
 simp -implicitDefEqProofs only [ad,hmx,af,hb,fT h [ak lim,.bool false,.slice none 0 0] rfl]
theorem is126:cd Tryd.prog 126 Tryd.f126:=⟨by kernel_rfl,by kernel_rfl,by kernel_rfl,by kernel_rfl⟩
theorem eql110 (b o:Nat):bin Tryd.prog .eql 126 (ptr b o) (.pointer none)=some (.bool false):=by kernel_rfl
theorem r126 {h:ab} {N w lim:Nat} {l:List Nat} (W:IsW h N w lim l) {n:Nat} (hn:l.length+n≤lim) : ∃ h',CW 126 [ptr w 0,ak n] h=some (.bool true,h')∧IsW h' N w lim l∧WS w h h':=by
 obtain ⟨v,h1,h2,h3,hbn⟩:=W.ex
 obtain ⟨a,c,hv,h4,h5,h6,h7⟩:=h2.bytes
 have hNw:=W.Nw
 have n0w:h.n0≤w:=by have:=W.n0;omega
 have l0:ld1 (ptr w 0) h=some (ak lim,h):=aQ h1 rfl
 have l1:ld1 (ptr w 1) h=some (.bool false,h):=aQ h1 rfl
 have l2:ld1 (ptr w 2) h=some (.slice a l.length c,h):=by rw [←hv];exact aQ h1 rfl (h2.cell.2.2)
 have hst:eT 1 (ptr w 1) (.bool false) h=some (undef,h.set w [ak lim,.bool false,v]):=stN1_at h1 (by simp) n0w rfl rfl
 obtain ⟨k2,k3⟩:=setPlain (k' := [ak lim,.bool false,v]) h1 n0w
 have hsm:=W.small
 have hd:(decide (lim-l.length<n))=false:=decide_eq_false (by omega)
 refine ⟨_,aC is126 W.g4 rfl ((t126_eq _ _ _ _).trans ?_),⟨⟨v,k3,h2.keep k2 (fun b hb hc=>by subst hc;exact h3 hb),h3,fun b hb=>Nat.lt_of_lt_of_le (hbn b hb) k2.next⟩,k2.n0▸W.n0,hNw,hsm,k2.n0▸W.g4⟩,⟨k2.n0,k2.next,fun b f=>k2.aF b f.1 f.2.1,fun b f=>⟨Nat.lt_of_lt_of_le f.1 k2.next,f.2.1,by
  have e1:wb h w=eZ v:=by unfold wb;rw [h1]
  have e2:wb (h.set w [ak lim,.bool false,v]) w=eZ v:=by unfold wb;rw [k3]
  rw [e2,←e1];exact f.2.2⟩⟩⟩
 have l1':ld1 (ptr w 1) (h.set w [ak lim,.bool false,v])=some (.bool false,h.set w [ak lim,.bool false,v]):=aQ k3 rfl
 unfold t126
 simp -implicitDefEqProofs only [ad,eql110,af,aY,beq_self_eq_true,ay,bQ,aB,Nat.zero_add,l1,Bool.false_eq_true,if_false,l0,l2,lenL_slice]
 rw [show (Value.int .i64 (l.length:Int))=ak l.length from rfl]
 simp -implicitDefEqProofs only [sub3 (show l.length≤lim by omega) (show lim≤9223372036854775807 by omega), af, ad, gtr3, hd, hst, l1', aX, Bool.not_false]
def fi:Nat→Nat→List Nat
 | 0,_ => []
 |n+1,v=>(v/256^n%256)::fi n v
theorem bH : ∀ n v,(fi n v).length=n
 | 0,_=>rfl
 |n+1,v=>by rw [fi,List.length_cons,bH]
theorem is125:cd Tryd.prog 125 Tryd.f125:=⟨by kernel_rfl,by kernel_rfl,by kernel_rfl,by kernel_rfl⟩
theorem bsl1 (h:ab) (x:Nat):cO 1 (.int .u8 0) 1 [(0,u8 x)] h=some (.slice (some ⟨h.next,0,none⟩) 1 1,h.alloc [u8 x]):=rfl
theorem bytes1 (h:ab) {x:Nat} (hx:x<256):au (some ⟨h.next,0,none⟩) 1 (h.alloc [u8 x])=some [x]:=by
 have:=cK (h:=h.alloc [u8 x]) (b:=h.next) (off:=0) (n:=1) (s:=none) (l := [x]) (by rw [ab.aK,if_pos rfl];rfl) (by simp) (by simpa using hx)
 rw [this];rfl
theorem IsW.bS {h h':ab} {N w lim:Nat} {l:List Nat} (W:IsW h N w lim l) (o:Old h h'):IsW h' N w lim l:=by
 obtain ⟨v,h1,h2,h3,h4⟩:=W.ex
 exact ⟨⟨v,o.dX h1 (fun h=>h),h2.keep o (fun _ _ h=>h),h3,fun b hb=>Nat.lt_of_lt_of_le (h4 b hb) o.next⟩,by rw [o.n0];exact W.n0,W.Nw,W.small,by rw [o.n0];exact W.g4⟩
theorem IsW.alloc {h:ab} {N w lim:Nat} {l:List Nat} (W:IsW h N w lim l) (k:Blk):IsW (h.alloc k) N w lim l:=W.bS (Kept.alloc _ _ _)
theorem r125 {h:ab} {N w lim:Nat} {l:List Nat} (W:IsW h N w lim l) {v n:Nat} (h1n:1≤n) (hn:n≤8) (hfit:l.length+n≤lim) (_hv:v<18446744073709551616) :
  ∃ h',CW 125 [ptr w 0,.int .u64 v,ak n] h=some (.tuple #[],h')∧IsW h' N w lim (l++fi n v)∧WS w h h':=by
 obtain ⟨h1,e1,W1,k1⟩:=r126 W hfit
 have hsm:=W.small
 have key:Fin 30 (fun ex y g=>ex = .exit 0∧IsW g N w lim (l++fi n v)∧WS w h g)
   (iter (av Tryd.prog CW (partOf Tryd.f125 [1,0,1,0,0])) rounds (aO 30 (up (bs [ptr w 0,.int .u64 v,ak n]) [(6,ak (n-1)),(7,ptr w 0),(8,ak n),(9,.bool true),(10,ak n),(11,ak (n-1))])) h1):=by
  refine bP (t125l125_1010_eq CW) (Inv:=fun k y g=>k≤n∧y 0=ptr w 0∧y 1 = .int .u64 v∧y 6 = .int .i64 ((k:Int)-1)∧WS w h g ∧ ∃ cur,IsW g N w lim cur∧cur++fi k v=l++fi n v) ?_ n (by have:rounds=18446744073709551616:=rfl;omega)
   ⟨Nat.le_refl _,rfl,rfl,by show ak (n-1)=_;unfold ak;exact congrArg _ (by omega),k1,l,W1,rfl⟩
  rintro k y g ⟨hk,i0,i1,i6,hkept,cur,Wc,hcur⟩
  have hclen:cur.length+k=l.length+n:=by
   have:=congrArg List.length hcur
   simpa [bH] using this
  unfold t125l125_1010
  simp -implicitDefEqProofs only [i6,ad,bC,af]
  by_cases hz:k=0
  ·subst hz
   have hd:decide ((((0:Nat):Int)-1)≥0)=false:=by decide
   simp -implicitDefEqProofs only [hd]
   refine dU.out 0 ⟨rfl,?_,hkept⟩
   have:cur=l++fi n v:=by simpa [fi] using hcur
   rw [←this];exact Wc
  ·obtain ⟨q,rfl⟩ : ∃ q,k=q+1:=⟨k-1,by omega⟩
   have hd:decide ((((q+1:Nat):Int)-1)≥0)=true:=decide_eq_true (by omega)
   have hm8:bin Tryd.prog .mul 3 (.int .i64 8) (.int .i64 (((q+1:Nat):Int)-1))=some (.int .i64 ((8*q:Nat):Int)):=by
    rw [gU,wrap_i64 (by omega) (by omega)]
    exact congrArg (fun z=>some (Value.int .i64 z)) (by omega)
   have hsh:bin Tryd.prog .shr 32 (.int .u64 (v:Int)) (.int .i64 ((8*q:Nat):Int))=some (.int .u64 ((v/256^q:Nat):Int)):=by
    rw [dR Tryd.prog 32 (k := .u64) (k' := .i64) (b:=8*q) (by show 8*q≤64;omega)]
    rw [show (2:Nat)^(8*q)=256^q by rw [Nat.pow_mul]]
   have hcv:IntKind.wrap .u8 ((v/256^q:Nat):Int)=((v/256^q%256:Nat):Int):=by
    rw [fI];omega
   have hlt8:v/256^q%256<256:=Nat.mod_lt _ (by decide)
   generalize hx:v/256^q%256=x at *
   obtain ⟨v1,v2,g1,g2,f1,f2,f3,f4,f5⟩:=w_append (c:=1) (Wc.alloc [u8 x]) (bytes1 g hlt8) (by omega)
   have hl2:ld1 (ptr w 2) g=some (v1,g):=by
    obtain ⟨vv,q1,q2,q3⟩:=Wc.ex
    have e1:ld1 (ptr w 2) g=some (vv,g):=aQ q1 rfl (q2.cell.2.2)
    have e2:ld1 (ptr w 2) (g.alloc [u8 x])=some (vv,g.alloc [u8 x]):=aQ (ab.gJ q1 _) rfl (q2.cell.2.2)
    rw [e2] at f1
    simp only [Option.some.injEq,Prod.mk.injEq,and_true] at f1
    rw [←f1];exact e1
   have hsub:bin Tryd.prog .sub 3 (.int .i64 (((q+1:Nat):Int)-1)) (.int .i64 1)=some (.int .i64 ((q:Int)-1)):=by
    rw [eK,wrap_i64 (by omega) (by omega)]
    exact congrArg (fun z=>some (Value.int .i64 z)) (by omega)
   simp -implicitDefEqProofs only [hd,i0,i1,ad,af,bQ,aB,Nat.zero_add,hl2,hm8,hsh,c7,hcv]
   rw [show (Value.int .u8 (x:Int))=u8 x from rfl,bsl1]
   simp -implicitDefEqProofs only [ad, f2, af, f3, hsub]
   refine dU.next q (by omega) ⟨by omega,i0,i1,rfl,?_,cur ++ [x],f4,?_⟩
   ·exact (hkept.trans (WS.of_old Wc.lt (Kept.alloc g _ _))).trans f5
   ·rw [←hcur,fi,hx,List.append_assoc];rfl
 obtain ⟨ex,y,g,q1,rfl,q2,q3⟩:=key
 refine ⟨g,aC is125 W.g4 rfl ((t125_eq _ _ _ _ _).trans ?_),q2,q3⟩
 unfold t125
 have hs1:bin Tryd.prog .sub 3 (ak n) (.int .i64 1)=some (ak (n-1)):=sub3 (b:=1) h1n (by omega)
 simp -implicitDefEqProofs only [ad,e1,hs1,af]
 rw [q1]
 simp -implicitDefEqProofs only [bB,b125_2,if_true]
 have hr:Tryd.f125.results.toList = []:=by kernel_rfl
 rw [hr];rfl
end
section
theorem is90:cd Tryd.prog 90 Tryd.f90:=⟨by kernel_rfl,by kernel_rfl,by kernel_rfl,by kernel_rfl⟩
theorem is88:cd Tryd.prog 88 Tryd.f88:=⟨by kernel_rfl,by kernel_rfl,by kernel_rfl,by kernel_rfl⟩
theorem is91:cd Tryd.prog 91 Tryd.f91:=⟨by kernel_rfl,by kernel_rfl,by kernel_rfl,by kernel_rfl⟩
section
variable {h:ab} {N w lim:Nat} {l:List Nat} (W:IsW h N w lim l)
include W
theorem r90 {v:Nat} (hfit:l.length+8≤lim) (hv:v<18446744073709551616) : ∃ h',CW 90 [ptr w 0,.int .u64 v] h=some (.tuple #[],h')∧IsW h' N w lim (l++fi 8 v)∧WS w h h':=by
 obtain ⟨h1,e1,e2,e3⟩:=r125 W (v:=v) (n:=8) (by decide) (by decide) hfit (by omega)
 have e1:CW 125 [ptr w 0,.int .u64 v,.int .i64 8] h=_:=e1
 refine ⟨h1,aC is90 W.g4 rfl ((t90_eq _ _ _ _).trans ?_),e2,e3⟩
 unfold t90
 simp -implicitDefEqProofs only [ad,e1]
theorem r88 {v:Nat} (hfit:l.length+1≤lim) (hv:v<256) : ∃ h',CW 88 [ptr w 0,.int .u8 v] h=some (.tuple #[],h')∧IsW h' N w lim (l++fi 1 v)∧WS w h h':=by
 obtain ⟨h1,e1,e2,e3⟩:=r125 W (v:=v) (n:=1) (by decide) (by decide) hfit (by omega)
 have e1:CW 125 [ptr w 0,.int .u64 v,.int .i64 1] h=_:=e1
 have hw:IntKind.wrap .u64 (v:Int)=(v:Int):=wrap_u64 (by omega) (by omega)
 refine ⟨h1,aC is88 W.g4 rfl ((t88_eq _ _ _ _).trans ?_),e2,e3⟩
 unfold t88
 simp -implicitDefEqProofs only [ad,c7,hw,e1]
theorem r91 (hl:l.length≤21000) : ∃ a c h',CW 91 [ptr w 0] h=some (.tuple #[.slice a l.length c,.int .i64 0],h')∧au a l.length h'=some l∧gF a l.length c=true∧Old h h'∧(∀ y,a=some y→h.next≤y.block):=by
 obtain ⟨v,h1,h2,h3⟩:=W.ex
 obtain ⟨a,c,hv,h4,h5,h6,h7⟩:=h2.bytes
 obtain ⟨a',c',h',e1,e2,e3,e4,e5,_⟩:=r69b (c:=c) W.g4 h4 hl
 have l1:ld1 (ptr w 1) h=some (.bool false,h):=aQ h1 rfl
 have l2:ld1 (ptr w 2) h=some (.slice a l.length c,h):=by rw [←hv];exact aQ h1 rfl (h2.cell.2.2)
 refine ⟨a',c',h',aC is91 W.g4 rfl ((t91_eq _ _ _).trans ?_),e2,e3,e4,fun y hy=>(e5 y hy).1⟩
 unfold t91
 simp -implicitDefEqProofs only [ad,eql110,af,bQ,aB,Nat.zero_add,l1,l2,e1]
end
end
end Go.Proofs.YtdnahgfgoajmcaaDoor

namespace Go.Proofs.YtdnahgfgoajmcaaDoor
open Go Go.Abs
theorem Typed.app {ks ls:List Kd} {a b:List Value} (x:Typed ks a) (y:Typed ls b):Typed (ks++ls) (a++b):=by
 refine ⟨by rw [List.length_append,List.length_append,x.1,y.1],fun j k hk => ?_⟩
 by_cases hj:j<ks.length
 ·rw [List.getElem?_append_left hj] at hk
  obtain ⟨v,h1,h2⟩:=x.2 j k hk
  exact ⟨v,by rw [List.getElem?_append_left (by rw [x.1];exact hj)];exact h1,h2⟩
 ·rw [List.getElem?_append_right (by omega)] at hk
  obtain ⟨v,h1,h2⟩:=y.2 _ k hk
  exact ⟨v,by rw [List.getElem?_append_right (by rw [x.1];omega),x.1];exact h1,h2⟩
theorem Typed.one {k:Kd} {v:Value} (h:k.has v):Typed [k] [v]:=⟨rfl,fun j t ht=>by
 cases j with
 |zero=>cases ht;exact ⟨v,rfl,h⟩
 |succ j=>cases ht⟩
end Go.Proofs.YtdnahgfgoajmcaaDoor

namespace Go.Proofs.YtdnahgfgoajmcaaDoor
open Go Go.Abs
@[ext] structure ao where
  kind:Nat
  obj:List Nat
  aH:Int
  inc:Nat
  num:Nat
  held:Bool
  k:Int
  n:Int
abbrev aV (l:List Nat):List Value:=l.map u8
def recC (r:ao):List Value := .int .u8 (r.kind:Int)::(aV r.obj ++ [.int .i64 r.aH,.int .u64 (r.inc:Int),.int .u64 (r.num:Int),.bool r.held,.int .i64 r.k,.int .i64 r.n])
def I64 (n:Int):Prop := -9223372036854775808≤n∧n≤9223372036854775807
def Bys (l:List Nat):Prop := ∀ x∈l,x<256
def gz (l:List Nat):Prop:=l.length=32∧Bys l
structure ao.Wf (r:ao):Prop where
 kind:r.kind<256
 obj:gz r.obj
 aH:I64 r.aH
 inc:r.inc<18446744073709551616
 num:r.num<18446744073709551616
 k:I64 r.k
 n:I64 r.n
theorem wf_i64 {n:Int}:(Lit.int .i64 n).wf=true↔I64 n:=by
 unfold I64
 simp [Lit.wf,IntKind.min,IntKind.max,IntKind.signed,IntKind.bits]
theorem wf_u64' {m:Nat} (h:m<18446744073709551616):(Lit.int .u64 (m:Int)).wf=true:=by
 simp [Lit.wf,IntKind.min,IntKind.max,IntKind.signed,IntKind.bits]
 omega
theorem cF {l:List Nat} (h:gz l):Typed digK (aV l):=by
 refine ⟨by rw [List.length_map];exact h.1,fun j k hk => ?_⟩
 have hj:j<32:=by
  have:=(List.getElem?_eq_some_iff.1 hk).1
  simpa [digK] using this
 unfold digK at hk
 rw [List.getElem?_replicate,if_pos hj] at hk
 cases hk
 have hj':j<l.length:=by rw [h.1];exact hj
 exact ⟨_,by rw [List.getElem?_map,List.getElem?_eq_getElem hj'];rfl,_,rfl,h.2 _ (List.getElem_mem hj')⟩
theorem cq {r:ao} (h:r.Wf):Typed recK (recC r):=
 (Typed.one (k := .u8) ⟨_,rfl,h.kind⟩).app ((cF h.obj).app ((Typed.one (k := .i .i64) ⟨_,rfl,wf_i64.2 h.aH⟩).app ((Typed.one (k := .i .u64) ⟨_,rfl,wf_u64' h.inc⟩).app ((Typed.one (k := .i .u64) ⟨_,rfl,wf_u64' h.num⟩).app
  ((Typed.one (k := .b) ⟨_,rfl⟩).app ((Typed.one (k := .i .i64) ⟨_,rfl,wf_i64.2 h.k⟩).app (Typed.one (k := .i .i64) ⟨_,rfl,wf_i64.2 h.n⟩)))))))
theorem u8s_inj {a b:List Nat} (h:aV a=aV b):a=b:=List.map_inj_right (fun x y e=>by have e:(Value.int .u8 (x:Int)) = .int .u8 (y:Int):=e;simp only [Value.int.injEq,true_and] at e;omega) |>.1 h
theorem recC_inj {a b:ao} (ha:a.obj.length=32) (hb:b.obj.length=32) (h:recC a=recC b):a=b:=by
 unfold recC at h
 rw [List.cons.injEq] at h
 obtain ⟨h1,h2⟩:=h
 obtain ⟨h3,h4⟩:=List.append_inj h2 (by simp [aV,ha,hb])
 simp only [List.cons.injEq,Value.int.injEq,Value.bool.injEq,true_and,and_true] at h1 h4
 obtain ⟨q1,q2,q3,q4,q5,q6⟩:=h4
 exact ao.ext (by omega) (u8s_inj h3) q1 (by omega) (by omega) q4 q5 q6
end Go.Proofs.YtdnahgfgoajmcaaDoor

namespace Go.Proofs.YtdnahgfgoajmcaaDoor
open Go Go.Abs
attribute [local congr] aq
def gV (r:ao):Bool:=decide (r.aH≥0)&&decide (r.aH<16)&&decide ((r.inc:Int)≥1)
def z32:List Nat:=List.replicate 32 0
def ao.z:ao:=⟨0,z32,0,0,0,false,0,0⟩
deriving instance DecidableEq for ao
def ao.base (r:ao):ao:={ ao.z with kind:=r.kind,aH:=r.aH,inc:=r.inc }
def ao.grave (r:ao):ao:={ ao.z with kind:=r.kind,obj:=r.obj }
def pieceB (r:ao):Bool:=gV r&&decide ((r.num:Int)≥1)&&decide (1≤r.k)&&decide (r.k≤r.n)&&decide (r.n≤255)
def dK (r:ao):Bool:=if (r.kind:Int)==1 then decide (r=r.base)&&gV r else if (r.kind:Int)==2 then decide (r=r.grave) else if (r.kind:Int)==3 then pieceB r else false
theorem is86:cd Tryd.prog 86 Tryd.f86:=⟨by kernel_rfl,by kernel_rfl,by kernel_rfl,by kernel_rfl⟩
theorem is42:cd Tryd.prog 42 Tryd.f42:=⟨by kernel_rfl,by kernel_rfl,by kernel_rfl,by kernel_rfl⟩
theorem bg {r:ao} (w:r.Wf):(recC r).length=39∧Abs.bJ (recC r)=true∧aJ (recC r)=true:=by
 have t:=cq w
 exact ⟨t.1,t.all.1,t.all.2.1⟩
structure RLd (h:ab) (b:Nat) (r:ao):Prop where
 l0:ld1 (ptr b 0) h=some (.int .u8 (r.kind:Int),h)
 l1:cT 32 (ptr b 1) h=some (.agg (aV r.obj).toArray,h)
 l33:ld1 (ptr b 33) h=some (.int .i64 r.aH,h)
 l34:ld1 (ptr b 34) h=some (.int .u64 (r.inc:Int),h)
 l35:ld1 (ptr b 35) h=some (.int .u64 (r.num:Int),h)
 l36:ld1 (ptr b 36) h=some (.bool r.held,h)
 l37:ld1 (ptr b 37) h=some (.int .i64 r.k,h)
 l38:ld1 (ptr b 38) h=some (.int .i64 r.n,h)
 all:cT 39 (ptr b 0) h=some (.agg (recC r).toArray,h)
theorem r_ld {h:ab} {b:Nat} {r:ao} (w:r.Wf) (g:h.get b=some (recC r)):RLd h b r:=by
 have ho:(aV r.obj).length=32:=by rw [List.length_map];exact w.obj.1
 have hd:=(cF w.obj).all.1
 have at_ : ∀ i v,[Value.int .i64 r.aH,.int .u64 (r.inc:Int),.int .u64 (r.num:Int),.bool r.held,.int .i64 r.k,.int .i64 r.n][i]? = some v→(recC r)[33+i]? = some v:=fun i v e=>by
  unfold recC
  rw [show 33+i=(32+i)+1 by omega,List.getElem?_cons_succ,List.getElem?_append_right (by omega),ho,Nat.add_sub_cancel_left]
  exact e
 exact ⟨aQ g rfl rfl,ldN_mid g (A := [.int .u8 (r.kind:Int)]) (B:=aV r.obj) rfl rfl ho hd,aQ g (at_ 0 _ rfl) rfl,aQ g (at_ 1 _ rfl) rfl,aQ g (at_ 2 _ rfl) rfl,aQ g (at_ 3 _ rfl) rfl,aQ g (at_ 4 _ rfl) rfl,aQ g (at_ 5 _ rfl) rfl,
  ldN_mid g (A := []) (B:=recC r) (C := []) (by simp) rfl (bg w).1 (bg w).2.1⟩
theorem rec_box (h:ab) {r:ao} (w:r.Wf) : ∃ h1,box (.agg (recC r).toArray) h=some (ptr h.next 0,h1)∧Old h h1∧RLd h1 h.next r:=by
 have g1:(h.alloc (recC r)).get h.next=some (recC r):=by rw [ab.aK,if_pos rfl]
 exact ⟨_,fT h _ (bg w).2.2,Kept.alloc _ _ _,r_ld w g1⟩
theorem r86 {h:ab} (hG:4≤h.n0) {r:ao} (w:r.Wf) : ∃ h',CW 86 [.agg (recC r).toArray] h=some (.bool (gV r),h')∧Old h h':=by
 obtain ⟨h1,b1,o1,A⟩:=rec_box h w
 refine ⟨h1,aC is86 hG rfl ((t86_eq _ _ _).trans ?_),o1⟩
 unfold t86 gV
 cases q0:decide (r.aH≥0) with
 |false=>simp -implicitDefEqProofs only [b1, A.l33, ad, af, aY, fs, aw, Bool.false_eq_true, if_false, aB, Nat.zero_add, bC, q0, Bool.false_and]
 |true=>
 cases q1:decide (r.aH<16) with
 |false=>simp -implicitDefEqProofs only [b1, A.l33, ad, af, aY, fs, beq_self_eq_true, ay, aw, Bool.false_eq_true, if_false, if_true, aB, Nat.zero_add, bC, bG, q0, q1, Bool.and_false, Bool.false_and]
 |true=>
 cases q2:decide ((r.inc:Int)≥1) with
 |false=>simp -implicitDefEqProofs only [b1, A.l33, A.l34, ad, af, aY, beq_self_eq_true, ay, if_true, aB, Nat.zero_add, bC, bG, q0, q1, q2, Bool.and_true, Bool.and_false]
 |true=>
 simp -implicitDefEqProofs only [b1, A.l33, A.l34, ad, af, aY, beq_self_eq_true, ay, if_true, aB, Nat.zero_add, bC, bG, q0, q1, q2, Bool.and_true]
theorem splice_app {A B C B':List Value} {o n:Nat} (hA:A.length=o) (hB:B.length=n) (hB':B'.length=n):bK (A++(B++C)) o B'=A++(B'++C):=by
 subst hA
 unfold bK
 rw [List.take_left,hB',List.append_assoc,←hB,←List.length_append,←List.append_assoc A B C,List.drop_left]
theorem fill_mid {z A B C B':List Value} {o n:Nat} {rest:List (Nat×Nat×Value)} (e:z=A++(B++C)) (hA:A.length=o) (hB:B.length=n) (hB':B'.length=n):dt z ((o,n,.agg B'.toArray)::rest)=dt (A++(B'++C)) rest:=by
 subst e
 have hc:(Value.agg B'.toArray).cells=B'.toArray:=rfl
 simp only [dt,hc,List.size_toArray,hB']
 rw [if_pos (by
  have:o+n≤(A++(B++C)).length:=by rw [List.length_append,List.length_append,hA,hB];omega
  simp only [decide_eq_true this]
  simp),splice_app hA hB hB']
theorem i64_0:I64 0:=⟨by decide,by decide⟩
theorem base_wf {r:ao} (w:r.Wf):r.base.Wf:=⟨w.kind,⟨rfl,fun x hx=>by
 have:=List.eq_of_mem_replicate hx
 omega⟩,w.aH,w.inc,by show (0:Nat)<_;omega,i64_0,i64_0⟩
theorem grave_wf {r:ao} (w:r.Wf):r.grave.Wf:=⟨w.kind,w.obj,i64_0,by show (0:Nat)<_;omega,by show (0:Nat)<_;omega,i64_0,i64_0⟩
theorem bld_base (r:ao):eW [(.int .u8 0),(.int .u8 0),(.int .u8 0),(.int .u8 0),(.int .u8 0),(.int .u8 0),(.int .u8 0),(.int .u8 0),(.int .u8 0),(.int .u8 0),(.int .u8 0),(.int .u8 0),(.int .u8 0),(.int .u8 0),(.int .u8 0),(.int .u8 0),(.int .u8 0),(.int .u8 0),(.int .u8 0),(.int .u8 0),(.int .u8 0),(.int .u8 0),(.int .u8 0),(.int .u8 0),(.int .u8 0),(.int .u8 0),(.int .u8 0),(.int .u8 0),(.int .u8 0),(.int .u8 0),(.int .u8 0),(.int .u8 0),(.int .u8 0),(.int .i64 0),(.int .u64 0),(.int .u64 0),(.bool false),(.int .i64 0),(.int .i64 0)] [(0,1,.int .u8 (r.kind:Int)),(33,1,.int .i64 r.aH),(34,1,.int .u64 (r.inc:Int))]=some (.agg (recC r.base).toArray):=rfl
theorem bld_grave {r:ao} (w:r.Wf):eW [(.int .u8 0),(.int .u8 0),(.int .u8 0),(.int .u8 0),(.int .u8 0),(.int .u8 0),(.int .u8 0),(.int .u8 0),(.int .u8 0),(.int .u8 0),(.int .u8 0),(.int .u8 0),(.int .u8 0),(.int .u8 0),(.int .u8 0),(.int .u8 0),(.int .u8 0),(.int .u8 0),(.int .u8 0),(.int .u8 0),(.int .u8 0),(.int .u8 0),(.int .u8 0),(.int .u8 0),(.int .u8 0),(.int .u8 0),(.int .u8 0),(.int .u8 0),(.int .u8 0),(.int .u8 0),(.int .u8 0),(.int .u8 0),(.int .u8 0),(.int .i64 0),(.int .u64 0),(.int .u64 0),(.bool false),(.int .i64 0),(.int .i64 0)] [(0,1,.int .u8 (r.kind:Int)),(1,32,.agg (aV r.obj).toArray)]=some (.agg (recC r.grave).toArray):=by
 have e:dt [(.int .u8 0),(.int .u8 0),(.int .u8 0),(.int .u8 0),(.int .u8 0),(.int .u8 0),(.int .u8 0),(.int .u8 0),(.int .u8 0),(.int .u8 0),(.int .u8 0),(.int .u8 0),(.int .u8 0),(.int .u8 0),(.int .u8 0),(.int .u8 0),(.int .u8 0),(.int .u8 0),(.int .u8 0),(.int .u8 0),(.int .u8 0),(.int .u8 0),(.int .u8 0),(.int .u8 0),(.int .u8 0),(.int .u8 0),(.int .u8 0),(.int .u8 0),(.int .u8 0),(.int .u8 0),(.int .u8 0),(.int .u8 0),(.int .u8 0),(.int .i64 0),(.int .u64 0),(.int .u64 0),(.bool false),(.int .i64 0),(.int .i64 0)] [(0,1,.int .u8 (r.kind:Int)),(1,32,.agg (aV r.obj).toArray)]=dt ([.int .u8 (r.kind:Int)]++(aV z32 ++ [.int .i64 0,.int .u64 0,.int .u64 0,.bool false,.int .i64 0,.int .i64 0])) [(1,32,.agg (aV r.obj).toArray)]:=rfl
 unfold eW
 rw [e,fill_mid (A := [.int .u8 (r.kind:Int)]) (B:=aV z32) (o:=1) (n:=32) rfl rfl rfl (by rw [List.length_map];exact w.obj.1)]
 rfl
theorem eq_rec {a b:ao} (wa:a.Wf) (wb:b.Wf):bin Tryd.prog .eql 58 (.agg (recC a).toArray) (.agg (recC b).toArray)=some (.bool (decide (a=b))):=by
 obtain ⟨r,h1,h2,_⟩:=eq58 _ _ (cq wa) (cq wb)
 have hr:r=decide (a=b):=by
  by_cases e:a=b
  ·rw [decide_eq_true e,h1.2 (by rw [e])]
  ·rw [decide_eq_false e]
   cases r with
   |false=>rfl
   |true=>exact absurd (recC_inj wa.obj.1 wb.obj.1 (h1.1 rfl)) e
 rw [h2,hr]
theorem r42 {h:ab} (hG:4≤h.n0) {r:ao} (w:r.Wf) : ∃ h',CW 42 [.agg (recC r).toArray] h=some (.bool (dK r),h')∧Old h h':=by
 obtain ⟨h1,b1,o1,A⟩:=rec_box h w
 obtain ⟨h2,e2,o2⟩:=r86 (h:=h1) (by rw [o1.n0];exact hG) w
 have e3:=bld_base r
 have e4:=bld_grave w
 have e5:=eq_rec w (base_wf w)
 have e6:=eq_rec w (grave_wf w)
 unfold dK
 cases k1:(r.kind:Int)==1 with
 |true=>
  simp only [if_true]
  cases q0:decide (r=r.base) with
  |false=>
   refine ⟨h1,aC is42 hG rfl ((t42_eq _ _ _).trans ?_),o1⟩
   unfold t42
   simp -implicitDefEqProofs only [b1, A.l0, A.l33, A.l34, A.all, e3, e5, k1, q0, ad, af, aY, fs, aw, Bool.false_eq_true, if_false, aB, Nat.zero_add, bq, Bool.false_and]
  |true=>
   refine ⟨h2,aC is42 hG rfl ((t42_eq _ _ _).trans ?_),o1.trans o2⟩
   unfold t42
   simp -implicitDefEqProofs only [b1, A.l0, A.l33, A.l34, A.all, e3, e5, e2, k1, q0, ad, af, aY, beq_self_eq_true, ay, if_true, aB, Nat.zero_add, bq, Bool.true_and]
 |false=>
  simp only [Bool.false_eq_true,if_false]
  cases k2:(r.kind:Int)==2 with
  |true=>
   simp only [if_true]
   refine ⟨h1,aC is42 hG rfl ((t42_eq _ _ _).trans ?_),o1⟩
   unfold t42
   simp -implicitDefEqProofs only [b1, A.l0, A.l1, A.all, e4, e6, k1, k2, ad, af, aB, Nat.zero_add, bq]
  |false=>
   simp only [Bool.false_eq_true,if_false]
   cases k3:(r.kind:Int)==3 with
   |true=>
    simp only [if_true]
    have A2:RLd h2 h.next r:=r_ld w (Old.get o2 (by
     obtain ⟨_,b1',_⟩:=rec_box h w
     have:=fT h (recC r) (bg w).2.2
     rw [b1] at this
     cases this
     rw [ab.aK,if_pos rfl]))
    refine ⟨h2,aC is42 hG rfl ((t42_eq _ _ _).trans ?_),o1.trans o2⟩
    unfold t42 pieceB
    cases q0:gV r with
    |false=>simp -implicitDefEqProofs only [b1, A.l0, A.all, e2, k1, k2, k3, ad, af, aY, fs, aw, Bool.false_eq_true, if_false, aB, Nat.zero_add, bq, q0, Bool.false_and]
    |true=>
    cases q1:decide ((r.num:Int)≥1) with
    |false=>simp -implicitDefEqProofs only [b1, A.l0, A.all, e2, k1, k2, k3, A2.l35, ad, af, aY, fs, beq_self_eq_true, ay, aw, Bool.false_eq_true, if_false, if_true, aB, Nat.zero_add, bC, bq, q0, q1, Bool.and_false, Bool.false_and]
    |true=>
    cases q2:decide (1≤r.k) with
    |false=>simp -implicitDefEqProofs only [b1, A.l0, A.all, e2, k1, k2, k3, A2.l35, A2.l37, ad, af, aY, fs, beq_self_eq_true, ay, aw, Bool.false_eq_true, if_false, if_true, aB, Nat.zero_add, bC, bM, bq, q0, q1, q2, Bool.and_true, Bool.and_false, Bool.false_and]
    |true=>
    cases q3:decide (r.k≤r.n) with
    |false=>simp -implicitDefEqProofs only [b1, A.l0, A.all, e2, k1, k2, k3, A2.l35, A2.l37, A2.l38, ad, af, aY, fs, beq_self_eq_true, ay, aw, Bool.false_eq_true, if_false, if_true, aB, Nat.zero_add, bC, bM, bq, q0, q1, q2, q3, Bool.and_true, Bool.and_false, Bool.false_and]
    |true=>
    cases q4:decide (r.n≤255) with
    |false=>simp -implicitDefEqProofs only [b1, A.l0, A.all, e2, k1, k2, k3, A2.l35, A2.l37, A2.l38, ad, af, aY, beq_self_eq_true, ay, if_true, aB, Nat.zero_add, bC, bM, bq, q0, q1, q2, q3, q4, Bool.and_true, Bool.and_false]
    |true=>
    simp -implicitDefEqProofs only [b1, A.l0, A.all, e2, k1, k2, k3, A2.l35, A2.l37, A2.l38, ad, af, aY, beq_self_eq_true, ay, if_true, aB, Nat.zero_add, bC, bM, bq, q0, q1, q2, q3, q4, Bool.and_true]
   |false=>
    refine ⟨h1,aC is42 hG rfl ((t42_eq _ _ _).trans ?_),o1⟩
    unfold t42
    simp -implicitDefEqProofs only [b1, A.l0, k1, k2, k3, ad, af, Bool.false_eq_true, if_false, aB, Nat.zero_add, bq]
end Go.Proofs.YtdnahgfgoajmcaaDoor

namespace Go.Proofs.YtdnahgfgoajmcaaDoor
open Go Go.Abs
attribute [local congr] aq
theorem ld_agg {t n:Nat} (h1:aggT Tryd.prog t=some true) (h2:cz Tryd.prog t=some n) (v:Value) (h:ab):ld Tryd.prog t v h=cT n v h:=by
 unfold ld
 rw [h1,h2]
theorem getD_mkF {n k:Nat} (hk:k<n) (x:Nat→Value):(aO n x).getD k undef=x k:=by
 unfold aO
 simp [hk]
theorem z32_ok:gz z32:=⟨rfl,fun x hx=>by
 have:=List.eq_of_mem_replicate hx
 omega⟩
end Go.Proofs.YtdnahgfgoajmcaaDoor

namespace Go.Proofs.YtdnahgfgoajmcaaDoor
open Go Go.Abs
attribute [local congr] aq
theorem ext0 (a b:Value):bm (.tuple #[a,b]) 0=some a:=rfl
theorem ext1 (a b:Value):bm (.tuple #[a,b]) 1=some b:=rfl
theorem fresh (cs:List Value) (h:ab) : ∃ h2,dJ cs h=some (ptr h.next 0,h2)∧Old h h2∧h2.get h.next=some cs∧h2.next=h.next+1:=
 ⟨_,newC_eq _ _,Kept.alloc _ _ _,by rw [ab.aK,if_pos rfl],rfl⟩
theorem stored {h:ab} {b o:Nat} {k:Blk} {v:Value} (g:h.get b=some k) (hn:h.n0≤b) (ho:o<k.length) (hc:v.cells = #[v]) (hv:v.oneCell'=true) : ∃ h2,eT 1 (ptr b o) v h=some (undef,h2)∧Kept h h2 (· = b)∧h2.get b=some (k.set o v)∧h2.n0≤b∧h2.next=h.next:=
 ⟨_,stN1_at g ho hn hc hv,Kept.set hn g (.inr rfl),ab.eD hn g _,hn,rfl⟩
theorem aS {h:ab} {b n:Nat} {k k':Blk} (g:h.get b=some k) (hn:h.n0≤b) (hl:k.length=n) (hl':k'.length=n) (ho:aJ k'=true) : ∃ h2,eT n (ptr b 0) (.agg k'.toArray) h=some (undef,h2)∧Kept h h2 (· = b)∧h2.get b=some k'∧h2.n0≤b∧h2.next=h.next:=
 ⟨_,stN_whole g hn hl hl' ho,Kept.set hn g (.inr rfl),ab.eD hn g _,hn,rfl⟩
end Go.Proofs.YtdnahgfgoajmcaaDoor

namespace Go.Proofs.YtdnahgfgoajmcaaDoor
open Go Go.Abs
attribute [local congr] aq
theorem is89:cd Tryd.prog 89 Tryd.f89:=⟨by kernel_rfl,by kernel_rfl,by kernel_rfl,by kernel_rfl⟩
theorem r89 {h:ab} {N w lim:Nat} {l:List Nat} (W:IsW h N w lim l) {a:Option Addr} {n c:Nat} {m:List Nat} (hm:au a n h=some m) (ha : ∀ y,a=some y→0<n→Fr h w y.block) (hfit:l.length+n≤lim) :
  ∃ h',CW 89 [ptr w 0,.slice a n c] h=some (.tuple #[],h')∧IsW h' N w lim (l++m)∧WS w h h':=by
 obtain ⟨h1,e1,W1,k1⟩:=r126 W (n:=n) hfit
 have hsm:=W.small
 obtain ⟨v1,v2,g1,g2,f1,f2,f3,f4,f5⟩:=w_append (c:=c) W1 (k1.bytes hm ha) (by omega)
 have hl:cN (.slice a n c)=some (ak n):=rfl
 refine ⟨g2,aC is89 W.g4 rfl ((t89_eq _ _ _ _).trans ?_),f4,k1.trans f5⟩
 unfold t89
 simp -implicitDefEqProofs only [ad,hl,af,e1,bQ,aB,Nat.zero_add,f1,f2,f3]
theorem arr32 (b o:Nat):cy 32 1 (ptr b o) none none none=some (.slice (some ⟨b,o,none⟩) 32 32):=by
 unfold cy
 rfl
theorem u8s_ok (l:List Nat):Abs.bJ (aV l)=true∧aJ (aV l)=true:=by
 refine ⟨?_,?_⟩
 ·unfold Abs.bJ
  rw [List.all_eq_true]
  intro v hv
  obtain ⟨x,_,rfl⟩:=List.mem_map.1 hv
  rfl
 ·unfold aJ
  rw [List.all_eq_true]
  intro v hv
  obtain ⟨x,_,rfl⟩:=List.mem_map.1 hv
  rfl
theorem bh {h:ab} {b n:Nat} {k:List Value} (g:h.get b=some k) (hl:k.length=n) (nh:Abs.bJ k=true):cT n (ptr b 0) h=some (.agg k.toArray,h):=ldN_mid g (A := []) (B:=k) (C := []) (by simp) rfl hl nh
end Go.Proofs.YtdnahgfgoajmcaaDoor

namespace Go.Proofs.YtdnahgfgoajmcaaDoor
open Go Go.Abs
attribute [local congr] aq
def i8 (x:Int):Nat:=(x%256).toNat
theorem i8_lt (x:Int):i8 x<256:=by unfold i8;omega
theorem wrap_i8 (x:Int):IntKind.wrap .u8 x=(i8 x:Nat):=by rw [fI];unfold i8;omega
def bit (b:Bool):Nat:=if b then 1 else 0
def encRec (r:ao):List Nat:=fi 1 r.kind++(r.obj++(fi 1 (i8 r.aH)++(fi 8 r.inc++(fi 8 r.num++(fi 1 (bit r.held)++(fi 1 (i8 r.k)++fi 1 (i8 r.n)))))))
theorem fE {h:ab} {b off:Nat} {s:Option Nat} {k A C:List Value} {l:List Nat} (g:h.get b=some k) (e:k=A++(aV l++C)) (hA:A.length=off) (hb:Bys l):au (some ⟨b,off,s⟩) l.length h=some l:=by
 unfold au
 rw [Option.bind_eq_some_iff]
 refine ⟨aV l,?_,bytesOf_map hb⟩
 have hm:=mid e hA (show (aV l).length=l.length from List.length_map ..)
 have hl:off+l.length≤k.length:=by rw [e,List.length_append,List.length_append,List.length_map,hA];omega
 simp only [bc,g,Nat.mul_one]
 by_cases h0:l.length=0
 ·rw [if_pos h0,List.length_eq_zero_iff.1 h0];rfl
 ·rw [if_neg h0,hm,if_pos ⟨hl,(u8s_ok l).1⟩]
theorem sliceBytes_put {g:ab} {b off m i v:Nat} {s:Option Nat} {k:Blk} {l:List Nat} (h0:g.n0≤b) (hk:g.get b=some k) (hl:au (some ⟨b,off,s⟩) m g=some l) (hi:i<m) (hv:v<256) :
  ∃ h',eT 1 (ptr b (off+i)) (u8 v) g=some (undef,h')∧au (some ⟨b,off,s⟩) m h'=some (l.set i v)∧Kept g h' (· = b)∧h'.next=g.next:=by
 obtain ⟨hlen,hb,hat⟩:=aE hl
 obtain ⟨b',off',s',k',he,hk',hkl,hc⟩:=hat (by omega)
 cases he
 rw [hk] at hk';cases hk'
 obtain ⟨h',e1,e2,e3,_,e5⟩:=stored (v:=u8 v) (o:=off+i) hk h0 (by omega) rfl rfl
 refine ⟨h',e1,?_,e2,e5⟩
 have hcells:(k.drop off).take m=aV l:=by
  refine List.ext_getElem? fun j => ?_
  rw [List.getElem?_take]
  by_cases hj:j<m
  ·rw [if_pos hj,List.getElem?_drop,hc j hj,List.getElem?_map,List.getD_eq_getElem?_getD,List.getElem?_eq_getElem (by omega)]
   rfl
  ·rw [if_neg hj,List.getElem?_eq_none (by rw [List.length_map];omega)]
 have hsplit:(k.set (off+i) (u8 v))=k.take off++(aV (l.set i v)++k.drop (off+m)):=by
  have h1:k=k.take off++(aV l++k.drop (off+m)):=by
   rw [←hcells,←List.drop_drop,List.take_append_drop,List.take_append_drop]
  have h2:(k.take off).length=off:=by rw [List.length_take];omega
  conv=>lhs;rw [h1]
  rw [List.set_append_right _ _ (by omega),h2,Nat.add_sub_cancel_left,List.set_append_left _ _ (by rw [List.length_map];omega),show aV (l.set i v)=(aV l).set i (u8 v) from List.map_set ..]
 have hb':Bys (l.set i v):=fun x hx=>by
  rcases List.mem_or_eq_of_mem_set hx with hx|hx
  ·exact hb x hx
  ·omega
 have:=fE (off:=off) (s:=s) e3 hsplit (by rw [List.length_take];omega) hb'
 rw [List.length_set,hlen] at this
 exact this
theorem Old.bA {a b c:ab} {d:Nat} (x:Old a b) (k:Kept b c (· = d)) (hd:a.next≤d):Old a c:=x.also k (fun e he q=>by omega)
theorem idx_bytes {a:Option Addr} {n c i:Nat} {h:ab} {l:List Nat} (e:au a n h=some l) (hi:i<n) : ∃ b off s k,a=some ⟨b,off,s⟩∧h.get b=some k∧df 1 (.slice a n c) (ak i)=some (ptr b (off+i)):=by
 obtain ⟨b,off,s,k,rfl,hk,_⟩:=(aE e).2.2 (by omega)
 refine ⟨b,off,s,k,rfl,hk,?_⟩
 unfold df
 simp only []
 rw [if_pos (by omega),Int.toNat_natCast,Nat.mul_one]
theorem set_nat {A B B':List Nat} {i v:Nat} (j:Nat) (h:A.length+j=i) (e:B.set j v=B'):(A++B).set i v=A++B':=by
 subst h
 rw [List.set_append_right _ _ (by omega),Nat.add_sub_cancel_left,e]
theorem dG (h:ab) {r:ao} (w:r.Wf) : ∃ h1,box (.agg (recC r).toArray) h=some (ptr h.next 0,h1)∧Old h h1∧h1.get h.next=some (recC r)∧h1.next=h.next+1:=by
 have g1:(h.alloc (recC r)).get h.next=some (recC r):=by rw [ab.aK,if_pos rfl]
 exact ⟨_,fT h _ (bg w).2.2,Kept.alloc _ _ _,g1,rfl⟩
theorem is43:cd Tryd.prog 43 Tryd.f43:=⟨by kernel_rfl,by kernel_rfl,by kernel_rfl,by kernel_rfl⟩
set_option maxRecDepth 100000 in
theorem r43 {h:ab} (hG:4≤h.n0) {r:ao} (w:r.Wf) (v:dK r=true) : ∃ a c h',CW 43 [.agg (recC r).toArray] h=some (.tuple #[.slice a 53 c,.int .i64 0],h')∧au a 53 h'=some (encRec r)∧Old h h'∧(∀ y,a=some y→h.next≤y.block)∧gF a 53 c=true:=by
 obtain ⟨h1,b1,o1,g1,n1⟩:=dG h w
 have A1:=r_ld w g1
 obtain ⟨h2,e2,o2⟩:=r42 (h:=h1) (by rw [o1.n0];exact hG) w
 rw [v] at e2
 have O2:=o1.trans o2
 have m2:=o2.next
 obtain ⟨h3,e3,W3,o3,F3⟩:=r87 h2 (by rw [O2.n0];exact hG) (lim:=53) (by decide)
 have e3:CW 87 [.int .i64 53] h2=_:=e3
 have fb:Fr h3 h2.next h.next:=F3 _ (by omega)
 have gb:h3.get h.next=some (recC r):=Old.get o3 (Old.get o2 g1)
 have K3:WS h2.next h3 h3:=WS.refl _ _
 have A3:=r_ld w gb
 obtain ⟨h4,e4,W4,k4⟩:=r88 W3 (v:=r.kind) (by simp only [List.length_nil];omega) w.kind
 have K4:=K3.trans k4
 have A4:=r_ld w ((K4.get _ fb).trans gb)
 obtain ⟨h5,e5,W5,k5⟩:=r89 W4 (n:=r.obj.length) (c:=32) (fE (off:=1) (s:=none) ((K4.get _ fb).trans gb) (A := [.int .u8 (r.kind:Int)]) rfl rfl w.obj.2) (fun y hy _=>by cases hy;exact K4.fr _ fb) (by simp only [List.length_append, bH, List.length_nil, w.obj.1];omega)
 have K5:=K4.trans k5
 have A5:=r_ld w ((K5.get _ fb).trans gb)
 obtain ⟨h6,e6,W6,k6⟩:=r88 W5 (v:=i8 r.aH) (by simp only [List.length_append, bH, List.length_nil, w.obj.1];omega) (i8_lt _)
 have K6:=K5.trans k6
 have A6:=r_ld w ((K6.get _ fb).trans gb)
 obtain ⟨h7,e7,W7,k7⟩:=r90 W6 (v:=r.inc) (by simp only [List.length_append, bH, List.length_nil, w.obj.1];omega) w.inc
 have K7:=K6.trans k7
 have A7:=r_ld w ((K7.get _ fb).trans gb)
 obtain ⟨h8,e8,W8,k8⟩:=r90 W7 (v:=r.num) (by simp only [List.length_append, bH, List.length_nil, w.obj.1];omega) w.num
 have K8:=K7.trans k8
 have A8:=r_ld w ((K8.get _ fb).trans gb)
 obtain ⟨h9,e9,W9,k9⟩:=r88 W8 (v:=0) (by simp only [List.length_append, bH, List.length_nil, w.obj.1];omega) (by decide)
 have K9:=K8.trans k9
 have A9:=r_ld w ((K9.get _ fb).trans gb)
 obtain ⟨h10,e10,W10,k10⟩:=r88 W9 (v:=i8 r.k) (by simp only [List.length_append, bH, List.length_nil, w.obj.1];omega) (i8_lt _)
 have K10:=K9.trans k10
 have A10:=r_ld w ((K10.get _ fb).trans gb)
 obtain ⟨h11,e11,W11,k11⟩:=r88 W10 (v:=i8 r.n) (by simp only [List.length_append, bH, List.length_nil, w.obj.1];omega) (i8_lt _)
 have K11:=K10.trans k11
 have A11:=r_ld w ((K11.get _ fb).trans gb)
 have a5:(32:Nat)=r.obj.length:=w.obj.1.symm
 have e5:CW 89 [ptr h2.next 0,.slice (some ⟨h.next,1,none⟩) 32 32] h4=some (.tuple #[],h5):=by
  have:=e5
  rw [w.obj.1] at this
  exact this
 have e9:CW 88 [ptr h2.next 0,.int .u8 0] h8=some (.tuple #[],h9):=e9
 obtain ⟨a,c,h12,e12,s12,gd12,o12,f12⟩:=r91 W11 (by simp only [List.length_append, bH, List.length_nil, w.obj.1];decide)
 have hL:(((((((([]++fi 1 r.kind)++r.obj)++fi 1 (i8 r.aH))++fi 8 r.inc)++fi 8 r.num)++fi 1 0)++fi 1 (i8 r.k))++fi 1 (i8 r.n)).length=53:=by simp only [List.length_append, bH, List.length_nil, w.obj.1]
 have o212:Old h2 h12:=by
  refine ⟨by rw [o12.n0,K11.n0,o3.n0],Nat.le_trans o3.next (Nat.le_trans K11.next o12.next),fun d hd _ => ?_⟩
  have f3:=F3 d hd
  exact (Kept.aF o12 d (Nat.lt_of_lt_of_le f3.1 K11.next) (fun h=>h)).trans ((K11.aF d f3).trans (Kept.aF o3 d hd (fun h=>h)))
 have A12:=r_ld w (Old.get o212 (Old.get o2 g1))
 rw [hL] at e12 s12 gd12
 have hle:h.next≤h11.next:=by have:=Nat.le_trans o3.next K11.next;omega
 have hs3:bin Tryd.prog .sub 3 (ak 53) (.int .i64 3)=some (ak 50):=sub3 (b:=3) (by decide) (by decide)
 have hl53:cN (.slice a 53 c)=some (ak 53):=rfl
 cases hh:r.held with
 |false=>
  refine ⟨a,c,h12,aC is43 hG rfl ((t43_eq _ _ _).trans ?_),?_,O2.trans o212,fun y hy=>Nat.le_trans hle (f12 y hy),gd12⟩
  ·have l36:ld1 (ptr h.next 36) h12=some (.bool false,h12):=by rw [A12.l36,hh]
   unfold t43
   simp -implicitDefEqProofs only [b1, A1.all, e2, e3, A3.l0, e4, arr32, e5, A5.l33, c7, wrap_i8, e6, A6.l34, e7, A7.l35, e8, e9, A9.l37, e10, A10.l38, e11, e12, ext0, ext1, l36, ad, af, aB, Nat.zero_add, Bool.not_true, aX]
  ·rw [s12]
   unfold encRec bit
   rw [hh]
   simp only [List.append_assoc,List.nil_append,Bool.false_eq_true,if_false]
 |true=>
  obtain ⟨b,off,s,k,rfl,hk,hix⟩:=idx_bytes (c:=c) (i:=50) s12 (by decide)
  have hbn:h11.next≤b:=f12 _ rfl
  obtain ⟨h13,e13,s13,k13,n13⟩:=sliceBytes_put (i:=50) (v:=1) (by rw [o212.n0];have:=h2.ax;have:=Nat.le_trans o3.next K11.next;omega) hk s12 (by decide) (by decide)
  refine ⟨some ⟨b,off,s⟩,c,h13,aC is43 hG rfl ((t43_eq _ _ _).trans ?_),?_,Old.bA (O2.trans o212) k13 (Nat.le_trans hle hbn),fun y hy=>by cases hy;exact Nat.le_trans hle hbn,gd12⟩
  ·have l36:ld1 (ptr h.next 36) h12=some (.bool true,h12):=by rw [A12.l36,hh]
   have e13:eT 1 (ptr b (off+50)) (.int .u8 1) h12=some (undef,h13):=e13
   unfold t43
   simp -implicitDefEqProofs only [b1, A1.all, e2, e3, A3.l0, e4, arr32, e5, A5.l33, c7, wrap_i8, e6, A6.l34, e7, A7.l35, e8, e9, A9.l37, e10, A10.l38, e11, e12, ext0, ext1, l36, hl53, hs3, hix, e13, ad, af, aB, Nat.zero_add, Bool.not_true, aX]
  ·rw [s13]
   unfold encRec bit
   rw [hh]
   simp only [List.append_assoc,List.nil_append,if_true]
   congr 1
   rw [show fi 1 r.kind++(r.obj++(fi 1 (i8 r.aH)++(fi 8 r.inc++(fi 8 r.num++(fi 1 0++(fi 1 (i8 r.k)++fi 1 (i8 r.n)))))))=(fi 1 r.kind++(r.obj++(fi 1 (i8 r.aH)++(fi 8 r.inc++fi 8 r.num))))++(fi 1 0++(fi 1 (i8 r.k)++fi 1 (i8 r.n))) by simp only [List.append_assoc],
    set_nat (B':=fi 1 1++(fi 1 (i8 r.k)++fi 1 (i8 r.n))) 0 (by simp only [List.length_append, bH, w.obj.1]) rfl]
   simp only [List.append_assoc]
end Go.Proofs.YtdnahgfgoajmcaaDoor

namespace Go.Proofs.YtdnahgfgoajmcaaDoor
open Go Go.Abs
attribute [local congr] aq
section
variable {x:ao} (ho:x.obj.length=32)
include ho
end
theorem ao.z_wf:ao.z.Wf:=⟨by decide,z32_ok,i64_0,by decide,by decide,i64_0,i64_0⟩
end Go.Proofs.YtdnahgfgoajmcaaDoor

namespace Go.Proofs.YtdnahgfgoajmcaaDoor
open Go Go.Abs
attribute [local congr] aq
def strOf (l:List Nat):ByteArray:=⟨(l.map UInt8.ofNat).toArray⟩
def u8v (n:Nat):Value := .int .u8 (n:Int)
theorem mapM_asByte : ∀ {l:List Nat},(l.map u8v).mapM asByte=some (l.map UInt8.ofNat)
 | []=>rfl
 |n::l=>by
  have ih:=mapM_asByte (l:=l)
  rw [List.map_cons,List.mapM_cons,ih]
  rfl
theorem strOf_inj {a b:List Nat} (ha : ∀ x∈a,x<256) (hb : ∀ x∈b,x<256):((strOf a).toList==(strOf b).toList)=decide (a=b):=by
 have hl : ∀ l:List Nat,(strOf l).toList=l.map UInt8.ofNat:=fun l=>Go.ByteArray.toList_mk _
 have hinj : ∀ a b:List Nat,(∀ x∈a,x<256)→(∀ x∈b,x<256)→a.map UInt8.ofNat=b.map UInt8.ofNat→a=b:=by
  intro a
  induction a with
  |nil=>intro b _ _ h;simpa using h.symm
  |cons x a ih=>
   intro b ha hb h
   match b with
   | []=>simp at h
   |y::b=>
    rw [List.map_cons,List.map_cons,List.cons.injEq] at h
    have hx:=ha x List.mem_cons_self
    have hy:=hb y List.mem_cons_self
    have e:x=y:=by
     have:=congrArg UInt8.toNat h.1
     rw [UInt8.toNat_ofNat',UInt8.toNat_ofNat'] at this
     omega
    rw [e,ih b (fun z hz=>ha z (List.mem_cons_of_mem _ hz)) (fun z hz=>hb z (List.mem_cons_of_mem _ hz)) h.2]
 rw [hl,hl]
 by_cases e:a=b
 ·rw [decide_eq_true e,e];exact beq_self_eq_true _
 ·rw [decide_eq_false e,beq_eq_false_iff_ne]
  exact fun h=>e (hinj a b ha hb h)
end Go.Proofs.YtdnahgfgoajmcaaDoor

namespace Go.Proofs.YtdnahgfgoajmcaaDoor
open Go Go.Abs
section
theorem fj {a:Option Addr} {n c:Nat} {h:ab} {l:List Nat} (e:au a n h=some l):cvBS (.slice a n c) h=some (.string (strOf l),h):=by
 have hl:=(aE e).1
 have hf:=gD e (Nat.le_refl n) (c:=c)
 rw [List.take_of_length_le (by omega)] at hf
 unfold cvBS bsR
 simp only [hf,show (l.map u8).mapM asByte=some (l.map UInt8.ofNat) from mapM_asByte]
 rfl
end
end Go.Proofs.YtdnahgfgoajmcaaDoor

namespace Go.Proofs.YtdnahgfgoajmcaaDoor
open Go Go.Abs
attribute [local congr] aq
theorem encRec_len {r:ao} (w:r.Wf):(encRec r).length=53:=by unfold encRec;simp only [List.length_append,bH,w.obj.1]
end Go.Proofs.YtdnahgfgoajmcaaDoor

namespace Go.Proofs.YtdnahgfgoajmcaaDoor
open Go Go.Abs
theorem bit_lt (b:Bool):bit b<2:=by cases b<;>decide
theorem i8_of {x:Int} (h0:0≤x) (h1:x≤255):(i8 x:Int)=x:=by unfold i8;omega
theorem rec_small {r:ao} (v:dK r=true):0≤r.aH∧r.aH≤15∧0≤r.k∧r.k≤255∧0≤r.n∧r.n≤255:=by
 have hh:gV r=true→0≤r.aH∧r.aH≤15:=fun h=>by
  unfold gV at h
  simp only [Bool.and_eq_true,decide_eq_true_eq] at h
  omega
 unfold dK at v
 split at v
 ·rw [Bool.and_eq_true,decide_eq_true_eq] at v
  obtain ⟨e,h⟩:=v
  have h:=hh h
  rw [e]
  exact ⟨h.1,h.2,show (0:Int)≤0 by decide,show (0:Int)≤255 by decide,show (0:Int)≤0 by decide,show (0:Int)≤255 by decide⟩
 split at v
 ·rw [decide_eq_true_eq] at v
  rw [v]
  exact ⟨show (0:Int)≤0 by decide,show (0:Int)≤15 by decide,show (0:Int)≤0 by decide,show (0:Int)≤255 by decide,show (0:Int)≤0 by decide,show (0:Int)≤255 by decide⟩
 split at v
 ·unfold pieceB at v
  simp only [Bool.and_eq_true,decide_eq_true_eq] at v
  have h:=hh v.1.1.1.1
  omega
 ·cases v
end Go.Proofs.YtdnahgfgoajmcaaDoor

namespace Go.Proofs.YtdnahgfgoajmcaaDoor
open Go Go.Abs
end Go.Proofs.YtdnahgfgoajmcaaDoor

namespace Go.Proofs.YtdnahgfgoajmcaaDoor
open Go Go.Abs
attribute [local congr] aq
theorem str_dec {a b:List Nat} (ha:Bys a) (hb:Bys b):bin Tryd.prog .eql 9 (.string (strOf a)) (.string (strOf b))=some (.bool (decide (a=b)))∧bin Tryd.prog .neq 9 (.string (strOf a)) (.string (strOf b))=some (.bool !(decide (a=b))):=by
 rw [←strOf_inj ha hb]
 exact ⟨rfl,rfl⟩
end Go.Proofs.YtdnahgfgoajmcaaDoor

namespace Go.Proofs.YtdnahgfgoajmcaaDoor
open Go Go.Abs
attribute [local congr] aq
end Go.Proofs.YtdnahgfgoajmcaaDoor

namespace Go.Proofs.YtdnahgfgoajmcaaDoor
open Go Go.Abs
def TypedN (ks:List Kd) (n:Nat) (cs:List Value):Prop:=cs.length=n*ks.length ∧ ∀ i,i<n→Typed ks ((cs.drop (i*ks.length)).take ks.length)
end Go.Proofs.YtdnahgfgoajmcaaDoor

namespace Go.Proofs.YtdnahgfgoajmcaaDoor
open Go Go.Abs
def SlN (h:ab) (ks:List Kd) (v:Value) (n:Nat) (cs:List Value):Prop:=
 ∃ a c,v = .slice a n c∧(a=none→n=0)∧TypedN ks n cs∧(0<n → ∃ b off s k,a=some ⟨b,off,s⟩∧h.get b=some k∧off+n*ks.length≤k.length∧(k.drop off).take (n*ks.length)=cs)
def slB:Value→Option Nat
 | .slice (some a) (_+1) _=>some a.block
 |_=>none
theorem mul_le {i n z:Nat} (hi:i<n):i*z+z≤n*z:=by
 have:=Nat.mul_le_mul_right z (show i+1≤n by omega)
 rw [Nat.add_mul,Nat.one_mul] at this
 exact this
end Go.Proofs.YtdnahgfgoajmcaaDoor

