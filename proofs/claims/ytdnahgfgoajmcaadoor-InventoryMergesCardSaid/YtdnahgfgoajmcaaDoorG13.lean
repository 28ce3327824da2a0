/-
  A part of the proof, spaces and names shortened by a program (a claim may hold 1,500,000 bytes).
  Conditions: as each theorem states.
-/
import Derived.Test.YtdnahgfgoajmcaaDoorG12
import Derived.Test.YtdnahgfgoajmcaaDoorProg
import Derived.KernelRfl
namespace Go.Proofs.YtdnahgfgoajmcaaDoor
open Go Go.Abs
def roundsL:List Value := [.int .u32 1116352408,.int .u32 1899447441,.int .u32 3049323471,.int .u32 3921009573,.int .u32 961987163,.int .u32 1508970993,.int .u32 2453635748,.int .u32 2870763221,.int .u32 3624381080,.int .u32 310598401,.int .u32 607225278,.int .u32 1426881987,.int .u32 1925078388,.int .u32 2162078206,.int .u32 2614888103,.int .u32 3248222580,.int .u32 3835390401,.int .u32 4022224774,.int .u32 264347078,.int .u32 604807628,.int .u32 770255983,.int .u32 1249150122,.int .u32 1555081692,.int .u32 1996064986,.int .u32 2554220882,.int .u32 2821834349,.int .u32 2952996808,.int .u32 3210313671,.int .u32 3336571891,.int .u32 3584528711,.int .u32 113926993,.int .u32 338241895,.int .u32 666307205,.int .u32 773529912,.int .u32 1294757372,.int .u32 1396182291,.int .u32 1695183700,.int .u32 1986661051,.int .u32 2177026350,.int .u32 2456956037,.int .u32 2730485921,.int .u32 2820302411,.int .u32 3259730800,.int .u32 3345764771,.int .u32 3516065817,.int .u32 3600352804,.int .u32 4094571909,.int .u32 275423344,.int .u32 430227734,.int .u32 506948616,.int .u32 659060556,.int .u32 883997877,.int .u32 958139571,.int .u32 1322822218,.int .u32 1537002063,.int .u32 1747873779,.int .u32 1955562222,.int .u32 2024104815,.int .u32 2227730452,.int .u32 2361852424,.int .u32 2428436474,.int .u32 2756734187,.int .u32 3204031479,.int .u32 3329325298]
def DI:Nat→Option (List Value):=fun b=>match b with
 | 3=>some roundsL
 |_=>none
noncomputable def okF (f:FuncId):Bool:=match Tryd.prog.funcs[f]? with|some fn=>fnOk Tryd.prog fn|none=>false
theorem c119:Contract Tryd.prog 119 cmpS:=cmp_contract (fn:=Tryd.f119) (by kernel_rfl) (by kernel_rfl) (by kernel_rfl) (by kernel_rfl) (by kernel_rfl)
noncomputable abbrev X0:CallF:=callL [(119,cmpS)]
theorem X0_sound:CSound Tryd.prog X0:=callL_sound _ (by
 intro p hp
 simp only [List.mem_cons,List.not_mem_nil,or_false] at hp
 subst hp
 exact c119)
def isTrueV:Value→Bool
 | .bool true=>true
 |_=>false
noncomputable def runQ (f:FuncId) (k:Value→Heap→Bool):Bool:=callQ Tryd.prog okF X0 (fun f=>Nat.beq f 119) 100000 40 f [] (bareG Tryd.prog DI) k
theorem known_runs:runQ 14 (fun v _=>isTrueV v)=true:=by kernel_rfl
end Go.Proofs.YtdnahgfgoajmcaaDoor

namespace Go.Proofs.YtdnahgfgoajmcaaDoor
open Go Go.Abs
theorem prog_mixed:Tryd.prog.follows .mixedOrders=true:=by kernel_rfl
theorem okF_sound : ∀ f fn,okF f=true→Tryd.prog.funcs[f]? = some fn→fnOk Tryd.prog fn=true:=by
 intro f fn h1 h2
 unfold okF at h1
 rw [h2] at h1
 exact h1
theorem known_lt:14<Tryd.prog.funcs.size:=Nat.le_of_ble_eq_true (by kernel_rfl)
theorem known_WB:WB (callQ Tryd.prog okF X0 (fun f=>Nat.beq f 119) 100000 40) 14 [] (bareG Tryd.prog DI) fun v _=>v = .bool true:=by
 refine ⟨fun v _=>isTrueV v,known_runs,fun v h e => ?_⟩
 have e:isTrueV v=true:=e
 unfold isTrueV at e
 split at e
 ·rfl
 ·cases e
noncomputable def s14 (args:List Value) (h:Heap):Out:=by
 classical exact if args = []∧h.get 3=some roundsL then some (.bool true,h) else none
theorem s14_eq {h:Heap} (g:h.get 3=some roundsL):s14 [] h=some (.bool true,h):=by
 unfold s14
 rw [if_pos ⟨rfl,g⟩]
theorem c14:Contract Tryd.prog 14 s14:=by
 refine Contract.closedQ (callQ_sound (sm:=fun f=>Nat.beq f 119) X0_sound (by unfold rounds;omega) prog_mixed okF_sound 40) known_lt (v := .bool true) rfl DI ?_ known_WB s14 ?_
 ·intro b cs e
  unfold DI at e
  split at e
  ·cases e;kernel_rfl
  ·cases e
 ·intro args h r e
  unfold s14 at e
  split at e
  ·rename_i hh
   cases e
   refine ⟨hh.1,rfl,fun b cs _ hd => ?_⟩
   unfold DI at hd
   split at hd
   ·cases hd;exact hh.2
   ·cases hd
  ·cases e
noncomputable abbrev XL:List (FuncId×(List Value→Heap→Out)) := [(14,s14),(119,cmpS)]
noncomputable abbrev XX:CallF:=callL XL
theorem XX_sound:CSound Tryd.prog XX:=callL_sound _ (by
 intro p hp
 simp only [List.mem_cons,List.not_mem_nil,or_false] at hp
 rcases hp with rfl|rfl
 ·exact c14
 ·exact c119)
noncomputable def CW:CallF:=CC Tryd.prog XX
theorem globals4:Tryd.prog.globals.size=4:=by kernel_rfl
theorem CW_body {f:FuncId} {fn:Func} (i:IsFn Tryd.prog f fn) {args:List Value} {h:Heap} {r:Value×Heap} (hg:4≤h.n0) (hX:XX f args h=none) (e:bodyK Tryd.prog CW fn args h=some r):CW f args h=some r:=
 CC_body i (by rw [globals4];exact hg) hX e
theorem r14 {h:Heap} (g:h.get 3=some roundsL):CW 14 [] h=some (.bool true,h):=CC_known (show XX 14 [] h=some (.bool true,h) from s14_eq g)
end Go.Proofs.YtdnahgfgoajmcaaDoor

namespace Go.Proofs.YtdnahgfgoajmcaaDoor
open Go Go.Abs
abbrev Old (h h':Heap):Prop:=Kept h h' (fun _=>False)
theorem Old.get {h h':Heap} (o:Old h h') {b:Nat} {k:Blk} (e:h.get b=some k):h'.get b=some k:=(Kept.get o b (h.lt_of_get e) (fun h=>h)).trans e
theorem thenV_congr {γ:Type} {o o':Out} {f:Value→Heap→Option γ} (h:o=o'):thenV o f=thenV o' f:=by rw [h]
inductive Kd where
 |u8
 |i (k:IntKind)
 |b
def Kd.has:Kd→Value→Prop
 | .u8,v => ∃ n:Nat,v = .int .u8 n∧n<256
 | .i k,v => ∃ n:Int,v = .int k n∧(Lit.int k n).wf=true
 | .b,v => ∃ t:Bool,v = .bool t
theorem Kd.has.cell {k:Kd} {v:Value} (h:k.has v):isHole v=false∧v.oneCell'=true∧flat v=true∧v.cells = #[v]:=by
 cases k with
 |u8=>obtain ⟨n,rfl,_⟩:=h;exact ⟨rfl,rfl,rfl,rfl⟩
 |i k=>obtain ⟨n,rfl,_⟩:=h;exact ⟨rfl,rfl,rfl,rfl⟩
 |b=>obtain ⟨t,rfl⟩:=h;exact ⟨rfl,rfl,rfl,rfl⟩
def Typed (ks:List Kd) (cs:List Value):Prop:=cs.length=ks.length ∧ ∀ (j:Nat) (k:Kd),ks[j]? = some k → ∃ v,cs[j]? = some v∧k.has v
theorem Typed.cell {ks:List Kd} {cs:List Value} (h:Typed ks cs) {j:Nat} {v:Value} (hv:cs[j]? = some v):isHole v=false∧v.oneCell'=true∧flat v=true∧v.cells = #[v]:=by
 have hj:=(List.getElem?_eq_some_iff.1 hv).1
 have hj':j<ks.length:=by rw [←h.1];exact hj
 obtain ⟨w,hw,hk⟩:=h.2 j _ (List.getElem?_eq_getElem hj')
 rw [hv] at hw
 cases hw
 exact hk.cell
theorem Typed.all {ks:List Kd} {cs:List Value} (h:Typed ks cs):Abs.noHoles cs=true∧oneCells cs=true∧flatAll cs=true:=by
 have key : ∀ v∈cs,isHole v=false∧v.oneCell'=true∧flat v=true:=fun v hv=>by
  obtain ⟨j,hj⟩:=List.mem_iff_getElem?.1 hv
  obtain ⟨a,b,c,_⟩:=h.cell hj
  exact ⟨a,b,c⟩
 refine ⟨?_,?_,?_⟩
 ·unfold Abs.noHoles
  rw [List.all_eq_true]
  exact fun v hv=>by rw [(key v hv).1];rfl
 ·unfold oneCells
  rw [List.all_eq_true]
  exact fun v hv=>(key v hv).2.1
 ·unfold flatAll
  rw [List.all_eq_true]
  exact fun v hv=>(key v hv).2.2
def EqT (t:TypeId) (ks:List Kd):Prop := ∀ xs ys:List Value,Typed ks xs→Typed ks ys → ∃ r:Bool,(r=true↔xs=ys)∧bin Tryd.prog .eql t (.agg xs.toArray) (.agg ys.toArray)=some (.bool r)∧bin Tryd.prog .neq t (.agg xs.toArray) (.agg ys.toArray)=some (.bool !r)
def digK:List Kd:=List.replicate 32 .u8
def recK:List Kd := .u8::(List.replicate 32 .u8 ++ [.i .i64,.i .u64,.i .u64,.b,.i .i64,.i .i64])
theorem size1:sizeT Tryd.prog 5=some 1:=by kernel_rfl
theorem size32:sizeT Tryd.prog 35=some 32:=by kernel_rfl
theorem ground_agg {xs:List Value} (h:flatAll xs=true):ground (.agg xs.toArray)=true:=by
 show flatAll xs.toArray.toList=true
 exact h
theorem dig_get {xs:List Value} (h:Typed digK xs) {i:Nat} (hi:i<32) : ∃ n:Nat,xs[i]? = some (.int .u8 n)∧n<256:=by
 obtain ⟨v,h1,n,rfl,h2⟩:=h.2 i .u8 (by unfold digK;rw [List.getElem?_replicate,if_pos hi])
 exact ⟨n,h1,h2⟩
theorem dig_run {d:Nat} {xs ys:List Value} (hx:Typed digK xs) (hy:Typed digK ys) : ∃ r:Bool,(r=true↔xs=ys)∧pureRun Tryd.prog (Op.equalIn (d+2) 35 (.agg xs.toArray) (.agg ys.toArray))=some r:=by
 obtain ⟨r,h1,h2⟩:=pr_eq_arr (P:=Tryd.prog) (d:=d) (m:=32) (t:=35) (e:=5) (k := .u8) (j := .u8) (xs:=xs.toArray) (ys:=ys.toArray) Tryd.underlying35 size1 Tryd.underlying5 (fun i hi=>by
  obtain ⟨a,ha,_⟩:=dig_get hx hi
  obtain ⟨b,hb,_⟩:=dig_get hy hi
  exact ⟨a,b,by simpa using ha,by simpa using hb⟩)
 refine ⟨r,h1.trans ⟨fun hh => ?_,fun hh i hi=>by rw [hh]⟩,h2⟩
 have lx:xs.length=32:=hx.1
 have ly:ys.length=32:=hy.1
 refine List.ext_getElem? fun i => ?_
 by_cases hi:i<32
 ·simpa using hh i hi
 ·rw [List.getElem?_eq_none (by omega),List.getElem?_eq_none (by omega)]
end Go.Proofs.YtdnahgfgoajmcaaDoor

namespace Go.Proofs.YtdnahgfgoajmcaaDoor
open Go Go.Abs
theorem rec_form {l:List Value} (h:Typed recK l) : ∃ (a:Nat) (o:List Value) (b c d:Int) (e:Bool) (f g:Int),l = .int .u8 a::(o ++ [.int .i64 b,.int .u64 c,.int .u64 d,.bool e,.int .i64 f,.int .i64 g])∧Typed digK o∧a<256∧(Lit.int .i64 b).wf=true∧(Lit.int .u64 c).wf=true∧(Lit.int .u64 d).wf=true∧(Lit.int .i64 f).wf=true∧(Lit.int .i64 g).wf=true:=by
 have hl:l.length=39:=h.1
 obtain ⟨_,h0,a,rfl,wa⟩:=h.2 0 .u8 rfl
 obtain ⟨_,h33,b,rfl,wb⟩:=h.2 33 (.i .i64) rfl
 obtain ⟨_,h34,c,rfl,wc⟩:=h.2 34 (.i .u64) rfl
 obtain ⟨_,h35,d,rfl,wd⟩:=h.2 35 (.i .u64) rfl
 obtain ⟨_,h36,e,rfl⟩:=h.2 36 .b rfl
 obtain ⟨_,h37,f,rfl,wf⟩:=h.2 37 (.i .i64) rfl
 obtain ⟨_,h38,g,rfl,wg⟩:=h.2 38 (.i .i64) rfl
 refine ⟨a,(l.drop 1).take 32,b,c,d,e,f,g,?_,?_,wa,wb,wc,wd,wf,wg⟩
 ·refine List.ext_getElem? fun i => ?_
  have hlo:((l.drop 1).take 32).length=32:=by rw [List.length_take,List.length_drop];omega
  rcases i with _|i
  ·exact h0
  ·rw [List.getElem?_cons_succ]
   by_cases hi:i<32
   ·rw [List.getElem?_append_left (by omega),List.getElem?_take,if_pos hi,List.getElem?_drop,Nat.add_comm]
   ·rw [List.getElem?_append_right (by omega),hlo]
    rcases (show i=32∨i=33∨i=34∨i=35∨i=36∨i=37∨38≤i by omega) with rfl|rfl|rfl|rfl|rfl|rfl|h38'
    ·exact h33
    ·exact h34
    ·exact h35
    ·exact h36
    ·exact h37
    ·exact h38
    ·rw [List.getElem?_eq_none (by omega),List.getElem?_eq_none (by simp;omega)]
 ·refine ⟨by rw [List.length_take,List.length_drop,hl];rfl,fun j k hk => ?_⟩
  have hj:j<32:=by
   have:=(List.getElem?_eq_some_iff.1 hk).1
   simpa [digK] using this
  have hk':k = .u8:=by
   unfold digK at hk
   rw [List.getElem?_replicate,if_pos hj] at hk
   exact (Option.some.inj hk).symm
  subst hk'
  obtain ⟨v,hv,hh⟩:=h.2 (j+1) .u8 (by
   unfold recK
   rw [List.getElem?_cons_succ,List.getElem?_append_left (by simpa using hj),List.getElem?_replicate,if_pos hj])
  exact ⟨v,by rw [List.getElem?_take,if_pos hj,List.getElem?_drop,Nat.add_comm];exact hv,hh⟩
theorem rec_at {a b c d e f:Value} {x:Value} {o:List Value} (ho:o.length=32) (i:Nat):(x::(o ++ [a,b,c,d,e,f])).toArray[33+i]? = [a,b,c,d,e,f][i]? := by
 rw [List.getElem?_toArray,show 33+i=(32+i)+1 by omega,List.getElem?_cons_succ,List.getElem?_append_right (by omega),ho,Nat.add_sub_cancel_left]
theorem rec_obj {x:Value} {o t:List Value} (ho:o.length=32):(x::(o++t)).toArray.extract 1 (1+32)=o.toArray:=by
 rw [List.extract_toArray]
 congr 1
 show ((x::(o++t)).drop 1).take (1+32-1)=o
 rw [List.drop_succ_cons,List.drop_zero,show 1+32-1=32 from rfl,←ho,List.take_left']
 rfl
theorem eq58:EqT 58 recK:=by
 intro xs ys hx hy
 have fx:=hx.all.2.2
 have fy:=hy.all.2.2
 obtain ⟨a,o,b,c,d,e,f,g,rfl,ho,_⟩:=rec_form hx
 obtain ⟨a',o',b',c',d',e',f',g',rfl,ho',_⟩:=rec_form hy
 obtain ⟨r,hr,hrun⟩:=dig_run (d:=9997) ho ho'
 have l1:o.length=32:=ho.1
 have l2:o'.length=32:=ho'.1
 have hp:pureRun Tryd.prog (Op.equalIn 10000 58 (.agg (Value.int .u8 a::(o ++ [.int .i64 b,.int .u64 c,.int .u64 d,.bool e,.int .i64 f,.int .i64 g])).toArray) (.agg (Value.int .u8 a'::(o' ++ [.int .i64 b',.int .u64 c',.int .u64 d',.bool e',.int .i64 f',.int .i64 g'])).toArray))
   = some (decide ((a:Int)=a')&&(r&&(decide (b=b')&&(decide (c=c')&&(decide (d=d')&&(decide (e=e')&&(decide (f=f')&&decide (g=g')))))))):=by
  rw [pr_eq_struct (P:=Tryd.prog) (d:=9999) Tryd.underlying58 (by kernel_rfl)]
  simp only [eqF]
  rw [if_pos (by decide),if_pos (by decide),if_pos (by decide),if_pos (by decide),if_pos (by decide),if_pos (by decide),if_pos (by decide),if_pos (by decide)]
  rw [pr_part_int (v := .int .u8 a) Tryd.underlying56 rfl,pr_part_int (v := .int .u8 a') Tryd.underlying56 rfl,pr_part_arr Tryd.underlying35 size32,pr_part_arr Tryd.underlying35 size32,rec_obj l1,rec_obj l2]
  rw [pr_part_int (v := .int .i64 b) Tryd.underlying3 (rec_at l1 0),pr_part_int (v := .int .i64 b') Tryd.underlying3 (rec_at l2 0),pr_part_int (v := .int .u64 c) Tryd.underlying32 (rec_at l1 1),pr_part_int (v := .int .u64 c') Tryd.underlying32 (rec_at l2 1),
   pr_part_int (v := .int .u64 d) Tryd.underlying32 (rec_at l1 2),pr_part_int (v := .int .u64 d') Tryd.underlying32 (rec_at l2 2),pr_part_bool (v := .bool e) Tryd.underlying4 (rec_at l1 3),pr_part_bool (v := .bool e') Tryd.underlying4 (rec_at l2 3),
   pr_part_int (v := .int .i64 f) Tryd.underlying3 (rec_at l1 4),pr_part_int (v := .int .i64 f') Tryd.underlying3 (rec_at l2 4),pr_part_int (v := .int .i64 g) Tryd.underlying3 (rec_at l1 5),pr_part_int (v := .int .i64 g') Tryd.underlying3 (rec_at l2 5)]
  simp only [Option.bind_some,pr_eq_int (d:=9998) Tryd.underlying56,pr_eq_int (d:=9998) Tryd.underlying3,pr_eq_int (d:=9998) Tryd.underlying32,pr_eq_bool (d:=9998) Tryd.underlying4,hrun]
  by_cases e1:(a:Int)=a'
  ·cases r
   ·simp [e1]
   ·by_cases e2:b=b'<;>by_cases e3:c=c'<;>by_cases e4:d=d'<;>by_cases e5:e=e'<;>by_cases e6:f=f'<;>by_cases e7:g=g'<;>simp [e1,e2,e3,e4,e5,e6,e7]
  ·simp [e1]
 refine ⟨_,?_,bin_agg (by kernel_rfl) (ground_agg fx) (ground_agg fy) hp⟩
 constructor
 ·intro h
  simp only [Bool.and_eq_true,decide_eq_true_eq] at h
  obtain ⟨h1,h2,h3,h4,h5,h6,h7,h8⟩:=h
  rw [h1,hr.1 h2,h3,h4,h5,h6,h7,h8]
 ·intro h
  rw [List.cons.injEq] at h
  obtain ⟨h1,h2⟩:=h
  have h3:=List.append_inj h2 (by omega)
  obtain ⟨h4,h5⟩:=h3
  simp only [List.cons.injEq,Value.int.injEq,Value.bool.injEq,true_and,and_true] at h5 h1
  simp only [Bool.and_eq_true,decide_eq_true_eq]
  exact ⟨h1,hr.2 h4,h5⟩
end Go.Proofs.YtdnahgfgoajmcaaDoor

namespace Go.Proofs.YtdnahgfgoajmcaaDoor
open Go Go.Abs
abbrev i64n (n:Nat):Value := .int .i64 (n:Int)
end Go.Proofs.YtdnahgfgoajmcaaDoor

namespace Go.Proofs.YtdnahgfgoajmcaaDoor
open Go Go.Abs
theorem box_at (h:Heap) (cs:List Value) (hc:oneCells cs=true):box (.agg cs.toArray) h=some (ptr h.next 0,h.alloc cs):=by
 have e:(Value.agg cs.toArray).cells=cs.toArray:=rfl
 unfold box
 rw [e,if_pos (by simpa using hc)]
 simp [Abs.newRow]
theorem mid {k A B C:List Value} {p n:Nat} (h:k=A++(B++C)) (hA:A.length=p) (hB:B.length=n):(k.drop p).take n=B:=by
 subst h hA hB
 rw [List.drop_left,List.take_left]
theorem ldN_mid {h:Heap} {b p n:Nat} {k A B C:List Value} (g:h.get b=some k) (e:k=A++(B++C)) (hA:A.length=p) (hB:B.length=n) (nh:Abs.noHoles B=true):ldN n (ptr b p) h=some (.agg B.toArray,h):=by
 have hm:=mid e hA hB
 have hl:p+n≤k.length:=by rw [e,List.length_append,List.length_append];omega
 have:=ldN_at g (o:=p) (n:=n) hl (by rw [hm];exact nh)
 rw [hm] at this
 exact this
end Go.Proofs.YtdnahgfgoajmcaaDoor

namespace Go.Proofs.YtdnahgfgoajmcaaDoor
open Go Go.Abs
attribute [local congr] thenV_congr
theorem sf:(some true==some false)=false:=rfl
theorem fs:(some false==some true)=false:=rfl
end Go.Proofs.YtdnahgfgoajmcaaDoor

namespace Go.Proofs.YtdnahgfgoajmcaaDoor
open Go Go.Abs
attribute [local congr] thenV_congr
theorem newC_eq (cs:List Value) (h:Heap):newC cs h=some (ptr h.next 0,h.alloc cs):=rfl
theorem stN_whole {h:Heap} {b:Nat} {k k':Blk} (hk:h.get b=some k) (h0:h.n0≤b) {n:Nat} (hn:k.length=n) (hn':k'.length=n) (ho:oneCells k'=true):stN n (ptr b 0) (.agg k'.toArray) h=some (undef,h.set b k'):=by
 unfold stN ptr
 have hc:(Value.agg k'.toArray).cells=k'.toArray:=rfl
 simp only [hc,List.size_toArray,hn',if_true]
 unfold stL
 simp only [hk]
 rw [if_pos (by simp [ho,h0,hn,hn'])]
 have:splice k 0 k'=k':=by simp [splice,hn,hn']
 simp [this]
end Go.Proofs.YtdnahgfgoajmcaaDoor

namespace Go.Proofs.YtdnahgfgoajmcaaDoor
open Go Go.Abs
section
abbrev u8 (n:Nat):Value := .int .u8 (n:Int)
theorem noHoles_u8 : ∀ l:List Nat,noHoles (l.map u8)=true
 | []=>rfl
 |x::l=>by
  have:=noHoles_u8 l
  simp only [noHoles,List.map_cons,List.all_cons] at this ⊢
  rw [this];rfl
theorem noHoles_part (l:List Nat) (o n:Nat):noHoles (((l.map u8).drop o).take n)=true:=by
 rw [←List.map_drop,←List.map_take];exact noHoles_u8 _
def nat8:Value→Option Nat
 | .int .u8 (.ofNat n)=>if n<256 then some n else none
 |_=>none
theorem nat8_eq {v:Value} {n:Nat} (h:nat8 v=some n):v=u8 n∧n<256:=by
 unfold nat8 at h
 split at h
 ·split at h
  ·cases h;exact ⟨rfl,by assumption⟩
  ·cases h
 ·cases h
def bytesOf:List Value→Option (List Nat)
 | []=>some []
 |v::l=>match nat8 v,bytesOf l with
  |some n,some r=>some (n::r)
  |_,_=>none
theorem bytesOf_eq : ∀ {l:List Value} {r:List Nat},bytesOf l=some r→l=r.map u8 ∧ ∀ n∈r,n<256
 | [],r,h=>by cases h;exact ⟨rfl,by simp⟩
 |v::l,r,h=>by
  unfold bytesOf at h
  split at h
  ·rename_i n r' h1 h2
   cases h
   obtain ⟨rfl,h3⟩:=nat8_eq h1
   obtain ⟨rfl,h4⟩:=bytesOf_eq h2
   refine ⟨rfl,fun m hm => ?_⟩
   rcases List.mem_cons.1 hm with rfl|hm
   ·exact h3
   ·exact h4 m hm
  ·cases h
theorem bytesOf_map : ∀ {r:List Nat},(∀ n∈r,n<256)→bytesOf (r.map u8)=some r
 | [],_=>rfl
 |n::r,h=>by
  have h1:nat8 (u8 n)=some n:=by
   show (if n<256 then some n else none)=some n
   rw [if_pos (h n List.mem_cons_self)]
  simp -implicitDefEqProofs only [List.map_cons,bytesOf,h1,bytesOf_map (r:=r) (fun m hm=>h m (List.mem_cons_of_mem _ hm))]
def sliceBytes (a:Option Addr) (n:Nat) (h:Heap):Option (List Nat):=(firstA 1 n (.slice a n n) h).bind bytesOf
theorem sliceBytes_spec {a:Option Addr} {n:Nat} {h:Heap} {l:List Nat} (e:sliceBytes a n h=some l) :
  l.length=n∧(∀ m∈l,m<256)∧(0<n → ∃ b off s k,a=some ⟨b,off,s⟩∧h.get b=some k∧off+n≤k.length ∧ ∀ i,i<n→k[off+i]? = some (u8 (l.getD i 0))):=by
 unfold sliceBytes at e
 rw [Option.bind_eq_some_iff] at e
 obtain ⟨cs,h1,h2⟩:=e
 obtain ⟨rfl,h3⟩:=bytesOf_eq h2
 unfold firstA at h1
 split at h1
 ·split at h1
  ·rename_i hn
   simp -implicitDefEqProofs only [Option.some.injEq] at h1
   have:l = []:=by cases l with|nil=>rfl|cons=>simp at h1
   subst this;subst hn
   exact ⟨rfl,h3,fun h=>absurd h (by omega)⟩
  ·cases h1
 ·rename_i b off s _ _ heq
  split at h1
  ·rename_i hn
   simp -implicitDefEqProofs only [Option.some.injEq] at h1
   have:l = []:=by cases l with|nil=>rfl|cons=>simp at h1
   subst this
   have:n=0:=by omega
   subst this
   exact ⟨rfl,h3,fun h=>absurd h (by omega)⟩
  ·split at h1
   ·rename_i k hk
    split at h1
    ·rename_i hl0
     have hl:=hl0.1
     rw [Nat.mul_one] at h1 hl
     simp -implicitDefEqProofs only [Option.some.injEq] at h1
     have hlen:l.length=n:=by
      have:=congrArg List.length h1
      simp -implicitDefEqProofs only [List.length_map,List.length_take,List.length_drop] at this
      omega
     refine ⟨hlen,h3,fun _=>⟨b,off,s,k,?_,hk,hl,?_⟩⟩
     ·cases heq;rfl
     ·intro i hi
      have h4:=congrArg (·[i]?) h1
      simp -implicitDefEqProofs only [List.getElem?_take,hi,if_true,List.getElem?_drop,List.getElem?_map] at h4
      rw [h4,List.getD_eq_getElem?_getD,List.getElem?_eq_getElem (by omega)]
      rfl
    ·cases h1
   ·cases h1
 ·cases (show Value.slice a n n = .string _ by assumption)
 ·cases h1
theorem sliceBytes_mono {a:Option Addr} {n:Nat} {h h':Heap} {l:List Nat} (e:sliceBytes a n h=some l) (hm : ∀ b k,h.get b=some k→h'.get b=some k):sliceBytes a n h'=some l:=by
 unfold sliceBytes at e ⊢
 rw [Option.bind_eq_some_iff] at e ⊢
 obtain ⟨cs,h1,h2⟩:=e
 refine ⟨cs,?_,h2⟩
 unfold firstA at h1 ⊢
 split at h1
 ·exact h1
 ·split at h1
  ·rw [if_pos (by assumption)];exact h1
  ·rw [if_neg (by assumption)]
   split at h1
   ·rename_i k hk
    rw [hm _ _ hk];exact h1
   ·cases h1
 ·cases (show Value.slice a n n = .string _ by assumption)
 ·cases h1
end
section
section bytes
theorem one_u8 : ∀ l:List Nat,oneCells (l.map u8)=true
 | []=>rfl
 |x::l=>by
  have:=one_u8 l
  simp only [oneCells,List.map_cons,List.all_cons] at this ⊢
  rw [this];rfl
theorem firstA_of {a:Option Addr} {n c:Nat} {h:Heap} {l:List Nat} (e:sliceBytes a n h=some l) {m:Nat} (hm:m≤n):firstA 1 m (.slice a n c) h=some ((l.take m).map u8):=by
 unfold sliceBytes at e
 rw [Option.bind_eq_some_iff] at e
 obtain ⟨cs,h1,h2⟩:=e
 obtain ⟨rfl,h3⟩:=bytesOf_eq h2
 cases a with
 |none=>
  simp only [firstA] at h1 ⊢
  split at h1
  ·cases l with
   |nil=>simp;omega
   |cons=>simp at h1
  ·cases h1
 |some x=>
  obtain ⟨b,off,s⟩:=x
  simp only [firstA,Nat.mul_one] at h1 ⊢
  by_cases hm0:m=0
  ·subst hm0;simp
  ·rw [if_neg hm0]
   rw [if_neg (by omega)] at h1
   cases hk:h.get b with
   |none=>rw [hk] at h1;cases h1
   |some k=>
    rw [hk] at h1
    simp only at h1 ⊢
    split at h1
    ·rename_i hl0
     have hl1:=hl0.1
     simp only [Option.some.injEq] at h1
     have hk2:List.take m (List.drop off k)=(l.take m).map u8:=by rw [List.map_take,←h1,List.take_take,Nat.min_eq_left hm]
     rw [if_pos ⟨by omega,by rw [hk2];exact noHoles_u8 _⟩,hk2]
    ·cases h1
end bytes
end
section
def goodS (a:Option Addr) (n c:Nat):Bool:=Nat.ble n c&&(match a with|some ⟨_,_,some s⟩=>s==1|_=>true)
end
section
theorem sliceBytes_at {h:Heap} {b off n:Nat} {s:Option Nat} {l:List Nat} (hg:h.get b=some (l.map u8)) (hl:off+n≤l.length) (hb : ∀ x∈l,x<256):sliceBytes (some ⟨b,off,s⟩) n h=some ((l.drop off).take n):=by
 unfold sliceBytes
 rw [Option.bind_eq_some_iff]
 refine ⟨((l.drop off).take n).map u8,?_,bytesOf_map (fun y hy=>hb y (List.mem_of_mem_drop (List.mem_of_mem_take hy)))⟩
 simp only [firstA,hg,Nat.mul_one]
 by_cases h0:n=0
 ·rw [if_pos h0,h0];rfl
 ·rw [if_neg h0,if_pos ⟨by simpa using hl,noHoles_part _ _ _⟩]
  simp
end
section
end
section
end
section
theorem Old.bytes {h h':Heap} (o:Old h h') {a:Option Addr} {n:Nat} {l:List Nat} (e:sliceBytes a n h=some l):sliceBytes a n h'=some l:=sliceBytes_mono e fun _ _=>o.get
structure IsR (h:Heap) (p r:Nat) (l:List Nat) (e:Int):Prop where
 ex : ∃ a n c,h.get r=some [.slice a n c,.int .i64 e]∧sliceBytes a n h=some l∧goodS a n c=true ∧ ∀ y,a=some y→p≤y.block∧y.block<r
 n0:h.n0≤r
 len:l.length≤21000
 g4:4≤h.n0
 pr:p≤r
def be (l:List Nat):Nat:=l.foldl (fun v x=>v*256+x) 0
end
section
section
variable {p r:Nat} {l:List Nat} {h:Heap} (R:IsR h p r l 0)
include R
end
end
end Go.Proofs.YtdnahgfgoajmcaaDoor

namespace Go.Proofs.YtdnahgfgoajmcaaDoor
open Go Go.Abs
attribute [local congr] thenV_congr
end Go.Proofs.YtdnahgfgoajmcaaDoor

namespace Go.Proofs.YtdnahgfgoajmcaaDoor
open Go Go.Abs
section
end
section
end
section
end
section
def baseOf:Value→Option Nat
 | .slice (some a) _ _=>some a.block
 |_=>none
def OwnC (h:Heap) (N size:Nat) (v:Value) (len:Nat) (cells:List Value):Prop:=
 cells.length=len*size∧Abs.noHoles cells=true∧oneCells cells=true ∧
 ((v = .slice none 0 0∧len=0) ∨ ∃ b s,v = .slice (some ⟨b,0,s⟩) len len∧N≤b∧((s=none∧len=0)∨(s=some size∧h.get b=some cells)))
structure OwnB (h:Heap) (N:Nat) (v:Value) (l:List Nat):Prop where
 own:OwnC h N 1 v l.length (l.map u8)
 byte : ∀ x∈l,x<256
end
section
end
section
structure IsW (h:Heap) (N w lim:Nat) (l:List Nat):Prop where
 ex : ∃ v,h.get w=some [i64n lim,.bool false,v]∧OwnB h N v l∧baseOf v≠some w ∧ ∀ b,baseOf v=some b→b<h.next
 n0:h.n0≤N
 Nw:N≤w
 small:lim≤100000
 g4:4≤h.n0
def wb (h:Heap) (w:Nat):Option Nat:=match h.get w with
 |some [_,_,v]=>baseOf v
 |_=>none
def Fr (h:Heap) (w b:Nat):Prop:=b<h.next∧b≠w∧wb h w≠some b
theorem bsl1 (h:Heap) (x:Nat):bslR 1 (.int .u8 0) 1 [(0,u8 x)] h=some (.slice (some ⟨h.next,0,none⟩) 1 1,h.alloc [u8 x]):=rfl
theorem bytes1 (h:Heap) {x:Nat} (hx:x<256):sliceBytes (some ⟨h.next,0,none⟩) 1 (h.alloc [u8 x])=some [x]:=by
 have:=sliceBytes_at (h:=h.alloc [u8 x]) (b:=h.next) (off:=0) (n:=1) (s:=none) (l := [x]) (by rw [Heap.get_alloc,if_pos rfl];rfl) (by simp) (by simpa using hx)
 rw [this];rfl
end
section
section
variable {h:Heap} {N w lim:Nat} {l:List Nat} (W:IsW h N w lim l)
include W
end
end
end Go.Proofs.YtdnahgfgoajmcaaDoor

namespace Go.Proofs.YtdnahgfgoajmcaaDoor
open Go Go.Abs
theorem Typed.app {ks ls:List Kd} {a b:List Value} (x:Typed ks a) (y:Typed ls b):Typed (ks++ls) (a++b):=by
 refine ⟨by rw [List.length_append,List.length_append,x.1,y.1],fun j k hk => ?_⟩
 by_cases hj:j<ks.length
 ·rw [List.getElem?_append_left hj] at hk
  obtain ⟨v,h1,h2⟩:=x.2 j k hk
  exact ⟨v,by rw [List.getElem?_append_left (by rw [x.1];exact hj)];exact h1,h2⟩
 ·rw [List.getElem?_append_right (by omega)] at hk
  obtain ⟨v,h1,h2⟩:=y.2 _ k hk
  exact ⟨v,by rw [List.getElem?_append_right (by rw [x.1];omega),x.1];exact h1,h2⟩
theorem Typed.one {k:Kd} {v:Value} (h:k.has v):Typed [k] [v]:=⟨rfl,fun j t ht=>by
 cases j with
 |zero=>cases ht;exact ⟨v,rfl,h⟩
 |succ j=>cases ht⟩
end Go.Proofs.YtdnahgfgoajmcaaDoor

namespace Go.Proofs.YtdnahgfgoajmcaaDoor
open Go Go.Abs
@[ext] structure RecD where
  kind:Nat
  obj:List Nat
  holder:Int
  inc:Nat
  num:Nat
  held:Bool
  k:Int
  n:Int
abbrev u8s (l:List Nat):List Value:=l.map u8
def recC (r:RecD):List Value := .int .u8 (r.kind:Int)::(u8s r.obj ++ [.int .i64 r.holder,.int .u64 (r.inc:Int),.int .u64 (r.num:Int),.bool r.held,.int .i64 r.k,.int .i64 r.n])
def I64 (n:Int):Prop := -9223372036854775808≤n∧n≤9223372036854775807
def Bys (l:List Nat):Prop := ∀ x∈l,x<256
def D32 (l:List Nat):Prop:=l.length=32∧Bys l
structure RecD.Wf (r:RecD):Prop where
 kind:r.kind<256
 obj:D32 r.obj
 holder:I64 r.holder
 inc:r.inc<18446744073709551616
 num:r.num<18446744073709551616
 k:I64 r.k
 n:I64 r.n
theorem wf_i64 {n:Int}:(Lit.int .i64 n).wf=true↔I64 n:=by
 unfold I64
 simp [Lit.wf,IntKind.min,IntKind.max,IntKind.signed,IntKind.bits]
theorem wf_u64' {m:Nat} (h:m<18446744073709551616):(Lit.int .u64 (m:Int)).wf=true:=by
 simp [Lit.wf,IntKind.min,IntKind.max,IntKind.signed,IntKind.bits]
 omega
theorem dig_typed {l:List Nat} (h:D32 l):Typed digK (u8s l):=by
 refine ⟨by rw [List.length_map];exact h.1,fun j k hk => ?_⟩
 have hj:j<32:=by
  have:=(List.getElem?_eq_some_iff.1 hk).1
  simpa [digK] using this
 unfold digK at hk
 rw [List.getElem?_replicate,if_pos hj] at hk
 cases hk
 have hj':j<l.length:=by rw [h.1];exact hj
 exact ⟨_,by rw [List.getElem?_map,List.getElem?_eq_getElem hj'];rfl,_,rfl,h.2 _ (List.getElem_mem hj')⟩
theorem rec_typed {r:RecD} (h:r.Wf):Typed recK (recC r):=
 (Typed.one (k := .u8) ⟨_,rfl,h.kind⟩).app ((dig_typed h.obj).app ((Typed.one (k := .i .i64) ⟨_,rfl,wf_i64.2 h.holder⟩).app ((Typed.one (k := .i .u64) ⟨_,rfl,wf_u64' h.inc⟩).app ((Typed.one (k := .i .u64) ⟨_,rfl,wf_u64' h.num⟩).app
  ((Typed.one (k := .b) ⟨_,rfl⟩).app ((Typed.one (k := .i .i64) ⟨_,rfl,wf_i64.2 h.k⟩).app (Typed.one (k := .i .i64) ⟨_,rfl,wf_i64.2 h.n⟩)))))))
theorem u8s_inj {a b:List Nat} (h:u8s a=u8s b):a=b:=List.map_inj_right (fun x y e=>by have e:(Value.int .u8 (x:Int)) = .int .u8 (y:Int):=e;simp only [Value.int.injEq,true_and] at e;omega) |>.1 h
theorem recC_inj {a b:RecD} (ha:a.obj.length=32) (hb:b.obj.length=32) (h:recC a=recC b):a=b:=by
 unfold recC at h
 rw [List.cons.injEq] at h
 obtain ⟨h1,h2⟩:=h
 obtain ⟨h3,h4⟩:=List.append_inj h2 (by simp [u8s,ha,hb])
 simp only [List.cons.injEq,Value.int.injEq,Value.bool.injEq,true_and,and_true] at h1 h4
 obtain ⟨q1,q2,q3,q4,q5,q6⟩:=h4
 exact RecD.ext (by omega) (u8s_inj h3) q1 (by omega) (by omega) q4 q5 q6
end Go.Proofs.YtdnahgfgoajmcaaDoor

namespace Go.Proofs.YtdnahgfgoajmcaaDoor
open Go Go.Abs
attribute [local congr] thenV_congr
def holderB (r:RecD):Bool:=decide (r.holder≥0)&&decide (r.holder<16)&&decide ((r.inc:Int)≥1)
def z32:List Nat:=List.replicate 32 0
def RecD.z:RecD:=⟨0,z32,0,0,0,false,0,0⟩
deriving instance DecidableEq for RecD
def RecD.base (r:RecD):RecD:={ RecD.z with kind:=r.kind,holder:=r.holder,inc:=r.inc }
def RecD.grave (r:RecD):RecD:={ RecD.z with kind:=r.kind,obj:=r.obj }
def pieceB (r:RecD):Bool:=holderB r&&decide ((r.num:Int)≥1)&&decide (1≤r.k)&&decide (r.k≤r.n)&&decide (r.n≤255)
def recB (r:RecD):Bool:=if (r.kind:Int)==1 then decide (r=r.base)&&holderB r else if (r.kind:Int)==2 then decide (r=r.grave) else if (r.kind:Int)==3 then pieceB r else false
theorem is86:IsFn Tryd.prog 86 Tryd.f86:=⟨by kernel_rfl,by kernel_rfl,by kernel_rfl,by kernel_rfl⟩
theorem is42:IsFn Tryd.prog 42 Tryd.f42:=⟨by kernel_rfl,by kernel_rfl,by kernel_rfl,by kernel_rfl⟩
theorem rec_cells {r:RecD} (w:r.Wf):(recC r).length=39∧Abs.noHoles (recC r)=true∧oneCells (recC r)=true:=by
 have t:=rec_typed w
 exact ⟨t.1,t.all.1,t.all.2.1⟩
structure RLd (h:Heap) (b:Nat) (r:RecD):Prop where
 l0:ld1 (ptr b 0) h=some (.int .u8 (r.kind:Int),h)
 l1:ldN 32 (ptr b 1) h=some (.agg (u8s r.obj).toArray,h)
 l33:ld1 (ptr b 33) h=some (.int .i64 r.holder,h)
 l34:ld1 (ptr b 34) h=some (.int .u64 (r.inc:Int),h)
 l35:ld1 (ptr b 35) h=some (.int .u64 (r.num:Int),h)
 l36:ld1 (ptr b 36) h=some (.bool r.held,h)
 l37:ld1 (ptr b 37) h=some (.int .i64 r.k,h)
 l38:ld1 (ptr b 38) h=some (.int .i64 r.n,h)
 all:ldN 39 (ptr b 0) h=some (.agg (recC r).toArray,h)
theorem r_ld {h:Heap} {b:Nat} {r:RecD} (w:r.Wf) (g:h.get b=some (recC r)):RLd h b r:=by
 have ho:(u8s r.obj).length=32:=by rw [List.length_map];exact w.obj.1
 have hd:=(dig_typed w.obj).all.1
 have at_ : ∀ i v,[Value.int .i64 r.holder,.int .u64 (r.inc:Int),.int .u64 (r.num:Int),.bool r.held,.int .i64 r.k,.int .i64 r.n][i]? = some v→(recC r)[33+i]? = some v:=fun i v e=>by
  unfold recC
  rw [show 33+i=(32+i)+1 by omega,List.getElem?_cons_succ,List.getElem?_append_right (by omega),ho,Nat.add_sub_cancel_left]
  exact e
 exact ⟨ld1_at g rfl rfl,ldN_mid g (A := [.int .u8 (r.kind:Int)]) (B:=u8s r.obj) rfl rfl ho hd,ld1_at g (at_ 0 _ rfl) rfl,ld1_at g (at_ 1 _ rfl) rfl,ld1_at g (at_ 2 _ rfl) rfl,ld1_at g (at_ 3 _ rfl) rfl,ld1_at g (at_ 4 _ rfl) rfl,ld1_at g (at_ 5 _ rfl) rfl,
  ldN_mid g (A := []) (B:=recC r) (C := []) (by simp) rfl (rec_cells w).1 (rec_cells w).2.1⟩
theorem rec_box (h:Heap) {r:RecD} (w:r.Wf) : ∃ h1,box (.agg (recC r).toArray) h=some (ptr h.next 0,h1)∧Old h h1∧RLd h1 h.next r:=by
 have g1:(h.alloc (recC r)).get h.next=some (recC r):=by rw [Heap.get_alloc,if_pos rfl]
 exact ⟨_,box_at h _ (rec_cells w).2.2,Kept.alloc _ _ _,r_ld w g1⟩
theorem r86 {h:Heap} (hG:4≤h.n0) {r:RecD} (w:r.Wf) : ∃ h',CW 86 [.agg (recC r).toArray] h=some (.bool (holderB r),h')∧Old h h':=by
 obtain ⟨h1,b1,o1,A⟩:=rec_box h w
 refine ⟨h1,CW_body is86 hG rfl ((t86_eq _ _ _).trans ?_),o1⟩
 unfold t86 holderB
 cases q0:decide (r.holder≥0) with
 |false=>simp -implicitDefEqProofs only [b1, A.l33, thenV_some, pu_some, bOf_bool, fs, guardK_false, Bool.false_eq_true, if_false, addP_ptr, Nat.zero_add, bin_geq, q0, Bool.false_and]
 |true=>
 cases q1:decide (r.holder<16) with
 |false=>simp -implicitDefEqProofs only [b1, A.l33, thenV_some, pu_some, bOf_bool, fs, beq_self_eq_true, guardK_true, guardK_false, Bool.false_eq_true, if_false, if_true, addP_ptr, Nat.zero_add, bin_geq, bin_lss, q0, q1, Bool.and_false, Bool.false_and]
 |true=>
 cases q2:decide ((r.inc:Int)≥1) with
 |false=>simp -implicitDefEqProofs only [b1, A.l33, A.l34, thenV_some, pu_some, bOf_bool, beq_self_eq_true, guardK_true, if_true, addP_ptr, Nat.zero_add, bin_geq, bin_lss, q0, q1, q2, Bool.and_true, Bool.and_false]
 |true=>
 simp -implicitDefEqProofs only [b1, A.l33, A.l34, thenV_some, pu_some, bOf_bool, beq_self_eq_true, guardK_true, if_true, addP_ptr, Nat.zero_add, bin_geq, bin_lss, q0, q1, q2, Bool.and_true]
theorem splice_app {A B C B':List Value} {o n:Nat} (hA:A.length=o) (hB:B.length=n) (hB':B'.length=n):splice (A++(B++C)) o B'=A++(B'++C):=by
 subst hA
 unfold splice
 rw [List.take_left,hB',List.append_assoc,←hB,←List.length_append,←List.append_assoc A B C,List.drop_left]
theorem fill_mid {z A B C B':List Value} {o n:Nat} {rest:List (Nat×Nat×Value)} (e:z=A++(B++C)) (hA:A.length=o) (hB:B.length=n) (hB':B'.length=n):fillL z ((o,n,.agg B'.toArray)::rest)=fillL (A++(B'++C)) rest:=by
 subst e
 have hc:(Value.agg B'.toArray).cells=B'.toArray:=rfl
 simp only [fillL,hc,List.size_toArray,hB']
 rw [if_pos (by
  have:o+n≤(A++(B++C)).length:=by rw [List.length_append,List.length_append,hA,hB];omega
  simp only [decide_eq_true this]
  simp),splice_app hA hB hB']
theorem i64_0:I64 0:=⟨by decide,by decide⟩
theorem base_wf {r:RecD} (w:r.Wf):r.base.Wf:=⟨w.kind,⟨rfl,fun x hx=>by
 have:=List.eq_of_mem_replicate hx
 omega⟩,w.holder,w.inc,by show (0:Nat)<_;omega,i64_0,i64_0⟩
theorem grave_wf {r:RecD} (w:r.Wf):r.grave.Wf:=⟨w.kind,w.obj,i64_0,by show (0:Nat)<_;omega,by show (0:Nat)<_;omega,i64_0,i64_0⟩
theorem bld_base (r:RecD):bldR [(.int .u8 0),(.int .u8 0),(.int .u8 0),(.int .u8 0),(.int .u8 0),(.int .u8 0),(.int .u8 0),(.int .u8 0),(.int .u8 0),(.int .u8 0),(.int .u8 0),(.int .u8 0),(.int .u8 0),(.int .u8 0),(.int .u8 0),(.int .u8 0),(.int .u8 0),(.int .u8 0),(.int .u8 0),(.int .u8 0),(.int .u8 0),(.int .u8 0),(.int .u8 0),(.int .u8 0),(.int .u8 0),(.int .u8 0),(.int .u8 0),(.int .u8 0),(.int .u8 0),(.int .u8 0),(.int .u8 0),(.int .u8 0),(.int .u8 0),(.int .i64 0),(.int .u64 0),(.int .u64 0),(.bool false),(.int .i64 0),(.int .i64 0)] [(0,1,.int .u8 (r.kind:Int)),(33,1,.int .i64 r.holder),(34,1,.int .u64 (r.inc:Int))]=some (.agg (recC r.base).toArray):=rfl
theorem bld_grave {r:RecD} (w:r.Wf):bldR [(.int .u8 0),(.int .u8 0),(.int .u8 0),(.int .u8 0),(.int .u8 0),(.int .u8 0),(.int .u8 0),(.int .u8 0),(.int .u8 0),(.int .u8 0),(.int .u8 0),(.int .u8 0),(.int .u8 0),(.int .u8 0),(.int .u8 0),(.int .u8 0),(.int .u8 0),(.int .u8 0),(.int .u8 0),(.int .u8 0),(.int .u8 0),(.int .u8 0),(.int .u8 0),(.int .u8 0),(.int .u8 0),(.int .u8 0),(.int .u8 0),(.int .u8 0),(.int .u8 0),(.int .u8 0),(.int .u8 0),(.int .u8 0),(.int .u8 0),(.int .i64 0),(.int .u64 0),(.int .u64 0),(.bool false),(.int .i64 0),(.int .i64 0)] [(0,1,.int .u8 (r.kind:Int)),(1,32,.agg (u8s r.obj).toArray)]=some (.agg (recC r.grave).toArray):=by
 have e:fillL [(.int .u8 0),(.int .u8 0),(.int .u8 0),(.int .u8 0),(.int .u8 0),(.int .u8 0),(.int .u8 0),(.int .u8 0),(.int .u8 0),(.int .u8 0),(.int .u8 0),(.int .u8 0),(.int .u8 0),(.int .u8 0),(.int .u8 0),(.int .u8 0),(.int .u8 0),(.int .u8 0),(.int .u8 0),(.int .u8 0),(.int .u8 0),(.int .u8 0),(.int .u8 0),(.int .u8 0),(.int .u8 0),(.int .u8 0),(.int .u8 0),(.int .u8 0),(.int .u8 0),(.int .u8 0),(.int .u8 0),(.int .u8 0),(.int .u8 0),(.int .i64 0),(.int .u64 0),(.int .u64 0),(.bool false),(.int .i64 0),(.int .i64 0)] [(0,1,.int .u8 (r.kind:Int)),(1,32,.agg (u8s r.obj).toArray)]=fillL ([.int .u8 (r.kind:Int)]++(u8s z32 ++ [.int .i64 0,.int .u64 0,.int .u64 0,.bool false,.int .i64 0,.int .i64 0])) [(1,32,.agg (u8s r.obj).toArray)]:=rfl
 unfold bldR
 rw [e,fill_mid (A := [.int .u8 (r.kind:Int)]) (B:=u8s z32) (o:=1) (n:=32) rfl rfl rfl (by rw [List.length_map];exact w.obj.1)]
 rfl
theorem eq_rec {a b:RecD} (wa:a.Wf) (wb:b.Wf):bin Tryd.prog .eql 58 (.agg (recC a).toArray) (.agg (recC b).toArray)=some (.bool (decide (a=b))):=by
 obtain ⟨r,h1,h2,_⟩:=eq58 _ _ (rec_typed wa) (rec_typed wb)
 have hr:r=decide (a=b):=by
  by_cases e:a=b
  ·rw [decide_eq_true e,h1.2 (by rw [e])]
  ·rw [decide_eq_false e]
   cases r with
   |false=>rfl
   |true=>exact absurd (recC_inj wa.obj.1 wb.obj.1 (h1.1 rfl)) e
 rw [h2,hr]
theorem r42 {h:Heap} (hG:4≤h.n0) {r:RecD} (w:r.Wf) : ∃ h',CW 42 [.agg (recC r).toArray] h=some (.bool (recB r),h')∧Old h h':=by
 obtain ⟨h1,b1,o1,A⟩:=rec_box h w
 obtain ⟨h2,e2,o2⟩:=r86 (h:=h1) (by rw [o1.n0];exact hG) w
 have e3:=bld_base r
 have e4:=bld_grave w
 have e5:=eq_rec w (base_wf w)
 have e6:=eq_rec w (grave_wf w)
 unfold recB
 cases k1:(r.kind:Int)==1 with
 |true=>
  simp only [if_true]
  cases q0:decide (r=r.base) with
  |false=>
   refine ⟨h1,CW_body is42 hG rfl ((t42_eq _ _ _).trans ?_),o1⟩
   unfold t42
   simp -implicitDefEqProofs only [b1, A.l0, A.l33, A.l34, A.all, e3, e5, k1, q0, thenV_some, pu_some, bOf_bool, fs, guardK_false, Bool.false_eq_true, if_false, addP_ptr, Nat.zero_add, bin_eql, Bool.false_and]
  |true=>
   refine ⟨h2,CW_body is42 hG rfl ((t42_eq _ _ _).trans ?_),o1.trans o2⟩
   unfold t42
   simp -implicitDefEqProofs only [b1, A.l0, A.l33, A.l34, A.all, e3, e5, e2, k1, q0, thenV_some, pu_some, bOf_bool, beq_self_eq_true, guardK_true, if_true, addP_ptr, Nat.zero_add, bin_eql, Bool.true_and]
 |false=>
  simp only [Bool.false_eq_true,if_false]
  cases k2:(r.kind:Int)==2 with
  |true=>
   simp only [if_true]
   refine ⟨h1,CW_body is42 hG rfl ((t42_eq _ _ _).trans ?_),o1⟩
   unfold t42
   simp -implicitDefEqProofs only [b1, A.l0, A.l1, A.all, e4, e6, k1, k2, thenV_some, pu_some, addP_ptr, Nat.zero_add, bin_eql]
  |false=>
   simp only [Bool.false_eq_true,if_false]
   cases k3:(r.kind:Int)==3 with
   |true=>
    simp only [if_true]
    have A2:RLd h2 h.next r:=r_ld w (Old.get o2 (by
     obtain ⟨_,b1',_⟩:=rec_box h w
     have:=box_at h (recC r) (rec_cells w).2.2
     rw [b1] at this
     cases this
     rw [Heap.get_alloc,if_pos rfl]))
    refine ⟨h2,CW_body is42 hG rfl ((t42_eq _ _ _).trans ?_),o1.trans o2⟩
    unfold t42 pieceB
    cases q0:holderB r with
    |false=>simp -implicitDefEqProofs only [b1, A.l0, A.all, e2, k1, k2, k3, thenV_some, pu_some, bOf_bool, fs, guardK_false, Bool.false_eq_true, if_false, addP_ptr, Nat.zero_add, bin_eql, q0, Bool.false_and]
    |true=>
    cases q1:decide ((r.num:Int)≥1) with
    |false=>simp -implicitDefEqProofs only [b1, A.l0, A.all, e2, k1, k2, k3, A2.l35, thenV_some, pu_some, bOf_bool, fs, beq_self_eq_true, guardK_true, guardK_false, Bool.false_eq_true, if_false, if_true, addP_ptr, Nat.zero_add, bin_geq, bin_eql, q0, q1, Bool.and_false, Bool.false_and]
    |true=>
    cases q2:decide (1≤r.k) with
    |false=>simp -implicitDefEqProofs only [b1, A.l0, A.all, e2, k1, k2, k3, A2.l35, A2.l37, thenV_some, pu_some, bOf_bool, fs, beq_self_eq_true, guardK_true, guardK_false, Bool.false_eq_true, if_false, if_true, addP_ptr, Nat.zero_add, bin_geq, bin_leq, bin_eql, q0, q1, q2, Bool.and_true, Bool.and_false, Bool.false_and]
    |true=>
    cases q3:decide (r.k≤r.n) with
    |false=>simp -implicitDefEqProofs only [b1, A.l0, A.all, e2, k1, k2, k3, A2.l35, A2.l37, A2.l38, thenV_some, pu_some, bOf_bool, fs, beq_self_eq_true, guardK_true, guardK_false, Bool.false_eq_true, if_false, if_true, addP_ptr, Nat.zero_add, bin_geq, bin_leq, bin_eql, q0, q1, q2, q3, Bool.and_true, Bool.and_false, Bool.false_and]
    |true=>
    cases q4:decide (r.n≤255) with
    |false=>simp -implicitDefEqProofs only [b1, A.l0, A.all, e2, k1, k2, k3, A2.l35, A2.l37, A2.l38, thenV_some, pu_some, bOf_bool, beq_self_eq_true, guardK_true, if_true, addP_ptr, Nat.zero_add, bin_geq, bin_leq, bin_eql, q0, q1, q2, q3, q4, Bool.and_true, Bool.and_false]
    |true=>
    simp -implicitDefEqProofs only [b1, A.l0, A.all, e2, k1, k2, k3, A2.l35, A2.l37, A2.l38, thenV_some, pu_some, bOf_bool, beq_self_eq_true, guardK_true, if_true, addP_ptr, Nat.zero_add, bin_geq, bin_leq, bin_eql, q0, q1, q2, q3, q4, Bool.and_true]
   |false=>
    refine ⟨h1,CW_body is42 hG rfl ((t42_eq _ _ _).trans ?_),o1⟩
    unfold t42
    simp -implicitDefEqProofs only [b1, A.l0, k1, k2, k3, thenV_some, pu_some, Bool.false_eq_true, if_false, addP_ptr, Nat.zero_add, bin_eql]
end Go.Proofs.YtdnahgfgoajmcaaDoor

namespace Go.Proofs.YtdnahgfgoajmcaaDoor
open Go Go.Abs
attribute [local congr] thenV_congr
theorem ld_agg {t n:Nat} (h1:aggT Tryd.prog t=some true) (h2:sizeT Tryd.prog t=some n) (v:Value) (h:Heap):ld Tryd.prog t v h=ldN n v h:=by
 unfold ld
 rw [h1,h2]
theorem getD_mkF {n k:Nat} (hk:k<n) (x:Nat→Value):(mkF n x).getD k undef=x k:=by
 unfold mkF
 simp [hk]
theorem res_cell_tmp {rs:List ResultVar} {n k t z j:Nat} (hr:rs = [.cell k t,.tmp j]) (h1:aggT Tryd.prog t=some true) (h2:sizeT Tryd.prog t=some z) (hk:k<n) (hj:j<n) (x:Nat→Value) {h:Heap} {v:Value} (e:ldN z (x k) h=some (v,h)):resultsA Tryd.prog rs (mkF n x) h=some (.tuple #[v,x j],h):=by
 subst hr
 simp only [resultsA,List.mapM_cons,List.mapM_nil,resultA,getD_mkF hk,getD_mkF hj,ld_agg h1 h2,e]
 rfl
theorem z32_ok:D32 z32:=⟨rfl,fun x hx=>by
 have:=List.eq_of_mem_replicate hx
 omega⟩
end Go.Proofs.YtdnahgfgoajmcaaDoor

namespace Go.Proofs.YtdnahgfgoajmcaaDoor
open Go Go.Abs
attribute [local congr] thenV_congr
theorem fresh (cs:List Value) (h:Heap) : ∃ h2,newC cs h=some (ptr h.next 0,h2)∧Old h h2∧h2.get h.next=some cs∧h2.next=h.next+1:=
 ⟨_,newC_eq _ _,Kept.alloc _ _ _,by rw [Heap.get_alloc,if_pos rfl],rfl⟩
theorem stored_all {h:Heap} {b n:Nat} {k k':Blk} (g:h.get b=some k) (hn:h.n0≤b) (hl:k.length=n) (hl':k'.length=n) (ho:oneCells k'=true) : ∃ h2,stN n (ptr b 0) (.agg k'.toArray) h=some (undef,h2)∧Kept h h2 (· = b)∧h2.get b=some k'∧h2.n0≤b∧h2.next=h.next:=
 ⟨_,stN_whole g hn hl hl' ho,Kept.set hn g (.inr rfl),Heap.get_set_same hn g _,hn,rfl⟩
end Go.Proofs.YtdnahgfgoajmcaaDoor

namespace Go.Proofs.YtdnahgfgoajmcaaDoor
open Go Go.Abs
attribute [local congr] thenV_congr
theorem arr32 (b o:Nat):sliceArr 32 1 (ptr b o) none none none=some (.slice (some ⟨b,o,none⟩) 32 32):=by
 unfold sliceArr
 rfl
theorem u8s_ok (l:List Nat):Abs.noHoles (u8s l)=true∧oneCells (u8s l)=true:=by
 refine ⟨?_,?_⟩
 ·unfold Abs.noHoles
  rw [List.all_eq_true]
  intro v hv
  obtain ⟨x,_,rfl⟩:=List.mem_map.1 hv
  rfl
 ·unfold oneCells
  rw [List.all_eq_true]
  intro v hv
  obtain ⟨x,_,rfl⟩:=List.mem_map.1 hv
  rfl
theorem ldN_all {h:Heap} {b n:Nat} {k:List Value} (g:h.get b=some k) (hl:k.length=n) (nh:Abs.noHoles k=true):ldN n (ptr b 0) h=some (.agg k.toArray,h):=ldN_mid g (A := []) (B:=k) (C := []) (by simp) rfl hl nh
end Go.Proofs.YtdnahgfgoajmcaaDoor

namespace Go.Proofs.YtdnahgfgoajmcaaDoor
open Go Go.Abs
attribute [local congr] thenV_congr
def i8 (x:Int):Nat:=(x%256).toNat
theorem i8_lt (x:Int):i8 x<256:=by unfold i8;omega
theorem wrap_i8 (x:Int):IntKind.wrap .u8 x=(i8 x:Nat):=by rw [wrap_u8_mod];unfold i8;omega
def bit (b:Bool):Nat:=if b then 1 else 0
theorem sliceBytes_mid {h:Heap} {b off:Nat} {s:Option Nat} {k A C:List Value} {l:List Nat} (g:h.get b=some k) (e:k=A++(u8s l++C)) (hA:A.length=off) (hb:Bys l):sliceBytes (some ⟨b,off,s⟩) l.length h=some l:=by
 unfold sliceBytes
 rw [Option.bind_eq_some_iff]
 refine ⟨u8s l,?_,bytesOf_map hb⟩
 have hm:=mid e hA (show (u8s l).length=l.length from List.length_map ..)
 have hl:off+l.length≤k.length:=by rw [e,List.length_append,List.length_append,List.length_map,hA];omega
 simp only [firstA,g,Nat.mul_one]
 by_cases h0:l.length=0
 ·rw [if_pos h0,List.length_eq_zero_iff.1 h0];rfl
 ·rw [if_neg h0,hm,if_pos ⟨hl,(u8s_ok l).1⟩]
theorem Old.of_new {a b c:Heap} {d:Nat} (x:Old a b) (k:Kept b c (· = d)) (hd:a.next≤d):Old a c:=x.also k (fun e he q=>by omega)
theorem rec_box2 (h:Heap) {r:RecD} (w:r.Wf) : ∃ h1,box (.agg (recC r).toArray) h=some (ptr h.next 0,h1)∧Old h h1∧h1.get h.next=some (recC r)∧h1.next=h.next+1:=by
 have g1:(h.alloc (recC r)).get h.next=some (recC r):=by rw [Heap.get_alloc,if_pos rfl]
 exact ⟨_,box_at h _ (rec_cells w).2.2,Kept.alloc _ _ _,g1,rfl⟩
end Go.Proofs.YtdnahgfgoajmcaaDoor

namespace Go.Proofs.YtdnahgfgoajmcaaDoor
open Go Go.Abs
attribute [local congr] thenV_congr
section
variable {x:RecD} (ho:x.obj.length=32)
include ho
end
theorem RecD.z_wf:RecD.z.Wf:=⟨by decide,z32_ok,i64_0,by decide,by decide,i64_0,i64_0⟩
end Go.Proofs.YtdnahgfgoajmcaaDoor

namespace Go.Proofs.YtdnahgfgoajmcaaDoor
open Go Go.Abs
attribute [local congr] thenV_congr
def strOf (l:List Nat):ByteArray:=⟨(l.map UInt8.ofNat).toArray⟩
def u8v (n:Nat):Value := .int .u8 (n:Int)
theorem mapM_asByte : ∀ {l:List Nat},(l.map u8v).mapM asByte=some (l.map UInt8.ofNat)
 | []=>rfl
 |n::l=>by
  have ih:=mapM_asByte (l:=l)
  rw [List.map_cons,List.mapM_cons,ih]
  rfl
theorem strOf_inj {a b:List Nat} (ha : ∀ x∈a,x<256) (hb : ∀ x∈b,x<256):((strOf a).toList==(strOf b).toList)=decide (a=b):=by
 have hl : ∀ l:List Nat,(strOf l).toList=l.map UInt8.ofNat:=fun l=>Go.ByteArray.toList_mk _
 have hinj : ∀ a b:List Nat,(∀ x∈a,x<256)→(∀ x∈b,x<256)→a.map UInt8.ofNat=b.map UInt8.ofNat→a=b:=by
  intro a
  induction a with
  |nil=>intro b _ _ h;simpa using h.symm
  |cons x a ih=>
   intro b ha hb h
   match b with
   | []=>simp at h
   |y::b=>
    rw [List.map_cons,List.map_cons,List.cons.injEq] at h
    have hx:=ha x List.mem_cons_self
    have hy:=hb y List.mem_cons_self
    have e:x=y:=by
     have:=congrArg UInt8.toNat h.1
     rw [UInt8.toNat_ofNat',UInt8.toNat_ofNat'] at this
     omega
    rw [e,ih b (fun z hz=>ha z (List.mem_cons_of_mem _ hz)) (fun z hz=>hb z (List.mem_cons_of_mem _ hz)) h.2]
 rw [hl,hl]
 by_cases e:a=b
 ·rw [decide_eq_true e,e];exact beq_self_eq_true _
 ·rw [decide_eq_false e,beq_eq_false_iff_ne]
  exact fun h=>e (hinj a b ha hb h)
end Go.Proofs.YtdnahgfgoajmcaaDoor

namespace Go.Proofs.YtdnahgfgoajmcaaDoor
open Go Go.Abs
section
theorem cvBS_at {a:Option Addr} {n c:Nat} {h:Heap} {l:List Nat} (e:sliceBytes a n h=some l):cvBS (.slice a n c) h=some (.string (strOf l),h):=by
 have hl:=(sliceBytes_spec e).1
 have hf:=firstA_of e (Nat.le_refl n) (c:=c)
 rw [List.take_of_length_le (by omega)] at hf
 unfold cvBS bsR
 simp only [hf,show (l.map u8).mapM asByte=some (l.map UInt8.ofNat) from mapM_asByte]
 rfl
end
end Go.Proofs.YtdnahgfgoajmcaaDoor

namespace Go.Proofs.YtdnahgfgoajmcaaDoor
open Go Go.Abs
attribute [local congr] thenV_congr
end Go.Proofs.YtdnahgfgoajmcaaDoor

namespace Go.Proofs.YtdnahgfgoajmcaaDoor
open Go Go.Abs
theorem i8_of {x:Int} (h0:0≤x) (h1:x≤255):(i8 x:Int)=x:=by unfold i8;omega
theorem rec_small {r:RecD} (v:recB r=true):0≤r.holder∧r.holder≤15∧0≤r.k∧r.k≤255∧0≤r.n∧r.n≤255:=by
 have hh:holderB r=true→0≤r.holder∧r.holder≤15:=fun h=>by
  unfold holderB at h
  simp only [Bool.and_eq_true,decide_eq_true_eq] at h
  omega
 unfold recB at v
 split at v
 ·rw [Bool.and_eq_true,decide_eq_true_eq] at v
  obtain ⟨e,h⟩:=v
  have h:=hh h
  rw [e]
  exact ⟨h.1,h.2,show (0:Int)≤0 by decide,show (0:Int)≤255 by decide,show (0:Int)≤0 by decide,show (0:Int)≤255 by decide⟩
 split at v
 ·rw [decide_eq_true_eq] at v
  rw [v]
  exact ⟨show (0:Int)≤0 by decide,show (0:Int)≤15 by decide,show (0:Int)≤0 by decide,show (0:Int)≤255 by decide,show (0:Int)≤0 by decide,show (0:Int)≤255 by decide⟩
 split at v
 ·unfold pieceB at v
  simp only [Bool.and_eq_true,decide_eq_true_eq] at v
  have h:=hh v.1.1.1.1
  omega
 ·cases v
end Go.Proofs.YtdnahgfgoajmcaaDoor

namespace Go.Proofs.YtdnahgfgoajmcaaDoor
open Go Go.Abs
end Go.Proofs.YtdnahgfgoajmcaaDoor

namespace Go.Proofs.YtdnahgfgoajmcaaDoor
open Go Go.Abs
attribute [local congr] thenV_congr
theorem str_dec {a b:List Nat} (ha:Bys a) (hb:Bys b):bin Tryd.prog .eql 9 (.string (strOf a)) (.string (strOf b))=some (.bool (decide (a=b)))∧bin Tryd.prog .neq 9 (.string (strOf a)) (.string (strOf b))=some (.bool !(decide (a=b))):=by
 rw [←strOf_inj ha hb]
 exact ⟨rfl,rfl⟩
end Go.Proofs.YtdnahgfgoajmcaaDoor

namespace Go.Proofs.YtdnahgfgoajmcaaDoor
open Go Go.Abs
attribute [local congr] thenV_congr
end Go.Proofs.YtdnahgfgoajmcaaDoor

namespace Go.Proofs.YtdnahgfgoajmcaaDoor
open Go Go.Abs
def TypedN (ks:List Kd) (n:Nat) (cs:List Value):Prop:=cs.length=n*ks.length ∧ ∀ i,i<n→Typed ks ((cs.drop (i*ks.length)).take ks.length)
end Go.Proofs.YtdnahgfgoajmcaaDoor

namespace Go.Proofs.YtdnahgfgoajmcaaDoor
open Go Go.Abs
def SlN (h:Heap) (ks:List Kd) (v:Value) (n:Nat) (cs:List Value):Prop:=
 ∃ a c,v = .slice a n c∧(a=none→n=0)∧TypedN ks n cs∧(0<n → ∃ b off s k,a=some ⟨b,off,s⟩∧h.get b=some k∧off+n*ks.length≤k.length∧(k.drop off).take (n*ks.length)=cs)
def slB:Value→Option Nat
 | .slice (some a) (_+1) _=>some a.block
 |_=>none
theorem mul_le {i n z:Nat} (hi:i<n):i*z+z≤n*z:=by
 have:=Nat.mul_le_mul_right z (show i+1≤n by omega)
 rw [Nat.add_mul,Nat.one_mul] at this
 exact this
end Go.Proofs.YtdnahgfgoajmcaaDoor

