/-
  A part of the proof, spaces and names shortened by a program (a claim may hold 1,500,000 bytes).
  Conditions: as each theorem states.
-/
import Derived.Test.YtdnahgfgoajmcaaDoorG17
namespace Go.Proofs.YtdnahgfgoajmcaaDoor
open Go Go.Abs
attribute [local congr] thenV_congr
noncomputable abbrev YV:CallF:=callL [(25,s25)]
abbrev SV:List Nat := [14,16,17,18,19,20,21,22,23,24,26,27,28,29,30,33,34,35,36,37,42,53,54,55,57,100,102,129,130,131,132,133,134]
theorem YV_sound:CSound Tryd.prog YV:=callL_sound _ (by
 intro p hp
 simp only [List.mem_cons,List.not_mem_nil,or_false] at hp
 subst hp
 exact c25)
noncomputable def CV:CallF:=CC2 Tryd.prog XX YV SV
theorem YV_none {f:FuncId} (hf:f≠25) (args:List Value) (h:Heap):YV f args h=none:=by
 show (if f=25 then s25 args h else none)=none
 rw [if_neg hf]
theorem CV_up {f:FuncId} {args:List Value} {h:Heap} {r:Value×Heap} (hS:SV.contains f=true) (hf:f≠25) (e:CW f args h=some r):CV f args h=some r:=CC2_up hS (YV_none hf _ _) e
theorem CV_body {f:FuncId} {fn:Func} (i:IsFn Tryd.prog f fn) {args:List Value} {h:Heap} {r:Value×Heap} (hg:4≤h.n0) (hS:SV.contains f=false) (hf:f≠25) (e:bodyK Tryd.prog CV fn args h=some r):CV f args h=some r:=
 CC2_body i (by rw [globals4];exact hg) hS (YV_none hf _ _) e
theorem r14V {h:Heap} (g:h.get 3=some roundsL):CV 14 [] h=some (.bool true,h):=CV_up rfl (by decide) (r14 g)
theorem ne_len {h:Heap} {b c:Nat} {k:Blk} {w:Value} (e:h.get b=some k) (hc:h.get c=some [w]) (hl:k.length≠1):b≠c:=fun q=>by
 subst q
 rw [e] at hc
 cases hc
 exact hl rfl
theorem RcS.keepC {h h':Heap} {v w:Value} {P:List RecD} {c:Nat} (x:RcS h v P) (k:Kept h h' (· = c)) (hc:h.get c=some [w]):RcS h' v P:=by
 obtain ⟨hd,a,d,rfl,hn,ht,h0⟩:=x
 refine ⟨hd,a,d,rfl,hn,ht,fun hp => ?_⟩
 obtain ⟨b,off,s,q,rfl,hk,hlen,hcs⟩:=h0 hp
 rw [show recK.length=39 from rfl] at hlen
 exact ⟨b,off,s,q,rfl,k.getE hk (ne_len hk hc (by omega)),by rw [show recK.length=39 from rfl];exact hlen,hcs⟩
theorem ldN_len {h:Heap} {n b o:Nat} {r:Value×Heap} (hn:0<n) (e:ldN n (ptr b o) h=some r) : ∃ k,h.get b=some k∧o+n≤k.length:=by
 unfold ldN ptr at e
 simp only at e
 split at e
 ·rename_i k hk
  split at e
  ·rename_i hh
   refine ⟨k,hk,?_⟩
   first|exact hh.1|omega|exact (by simpa using hh:_∧_).1
  ·cases e
 ·cases e
structure IvH (h:Heap) (vb:Nat) (L:List RecD):Prop where
 n0:h.n0≤vb
 ex : ∃ va,h.get vb=some [va]∧RcS h va L∧nilOk va
 vld:Vld L
 ks:KS L
theorem IvH.cell {h:Heap} {vb:Nat} {L:List RecD} (x:IvH h vb L) : ∃ w,h.get vb=some [w]:=by
 obtain ⟨va,h1,_⟩:=x.ex
 exact ⟨va,h1⟩
theorem IvH.old {h h':Heap} {vb:Nat} {L:List RecD} (x:IvH h vb L) (o:Old h h'):IvH h' vb L:=by
 obtain ⟨va,h1,h2,h3⟩:=x.ex
 exact ⟨by rw [o.n0];exact x.n0,⟨va,Old.get o h1,h2.mono o,h3⟩,x.vld,x.ks⟩
theorem recsC_typed {P:List RecD} (hd : ∀ p∈P,RecD.Wf p):TypedN recK P.length (recsC P):=by
 refine ⟨recsC_len hd,fun i hi => ?_⟩
 rw [show recK.length=39 from rfl,recsC_get hd hi]
 refine rec_typed (hd _ ?_)
 rw [List.getD_eq_getElem?_getD,List.getElem?_eq_getElem hi]
 exact List.getElem_mem hi
theorem RcS.of_blk {h:Heap} {b n c:Nat} {s:Option Nat} {P:List RecD} (hd : ∀ p∈P,RecD.Wf p) (hn:n=P.length) (hg:h.get b=some (recsC P)):RcS h (.slice (some ⟨b,0,s⟩) n c) P:=by
 subst hn
 have hl:=recsC_len hd
 refine ⟨hd,some ⟨b,0,s⟩,c,rfl,(fun h=>by cases h),recsC_typed hd,fun _=>⟨b,0,s,recsC P,rfl,hg,?_,?_⟩⟩
 ·rw [show recK.length=39 from rfl,hl,Nat.zero_add]
  exact Nat.le_refl _
 ·rw [show recK.length=39 from rfl,List.drop_zero,←hl,List.take_length]
theorem RLst.rcs {h:Heap} {N:Nat} {v:Value} {L:List RecD} (x:RLst h N v L):RcS h v L:=by
 obtain ⟨hw,b,s,rfl,h1,_⟩:=x
 exact RcS.of_blk hw rfl h1
theorem r25B {h:Heap} {vb:Nat} {v:Value} {L R:List RecD} (I:IvH h vb L) (x:RSl h v R) (vr : ∀ r∈R,recB r=true) (hL:L.length≤500000) (hR:R.length≤500000) :
  ∃ h',CV 25 [ptr vb 0,v] h=some (.int .i64 0,h')∧IvH h' vb (merged L R)∧Kept h h' (· = vb) ∧ ∀ va b,h'.get vb=some [va]→slB va=some b→b=h.next:=by
 obtain ⟨va,gv,ra,na⟩:=I.ex
 have ok:MrgOk [ptr vb 0,v] h vb va L v R:=⟨rfl,I.n0,gv,ra.rsl,x,I.vld,hL,hR⟩
 have hi:invB R=false:=by
  unfold invB
  rw [List.any_eq_false]
  intro r hr
  rw [vr r hr]
  decide
 have e:=s25_eq ok
 rw [if_neg (by rw [hi];exact Bool.false_ne_true)] at e
 have vl:Vld (L++R):=fun r hr=>by
  rcases List.mem_append.1 hr with h1|h1
  ·exact I.vld r h1
  ·exact ⟨x.2.1 r h1,vr r h1⟩
 obtain ⟨wv,wk⟩:=merged_wf vl
 generalize merged L R=M at *
 have vlt:=h.lt_of_get gv
 have gB:=mrgH_getB (h:=h) M I.n0 gv
 have k:Kept h (mrgH h vb M) (· = vb):=⟨rfl,by rw [mrgH_next];omega,fun c hc hn=>by rw [gB,if_neg (by omega),if_neg hn]⟩
 have g1:(mrgH h vb M).get vb=some [.slice (some ⟨h.next,0,if M = [] then none else some 39⟩) M.length M.length]:=Heap.get_of_getB _ (by rw [gB,if_neg (by omega),if_pos rfl])
 have g2:(mrgH h vb M).get h.next=some (recsC M):=Heap.get_of_getB _ (by rw [gB,if_pos rfl])
 refine ⟨_,CC2_known e,⟨I.n0,⟨_,g1,RcS.of_blk (fun r hr=>(wv r hr).1) rfl g2,.inr ⟨_,_,_,rfl,Nat.le_refl _,fun t e=>by
  have e:(if M = [] then none else some 39)=some t:=e
  split at e
  ·cases e
  ·exact (Option.some.inj e).symm⟩⟩,wv,wk⟩,k,fun va' b' e1 e2 => ?_⟩
 rw [g1] at e1
 cases e1
 cases hM:M.length with
 |zero=>rw [hM] at e2;cases e2
 |succ n=>rw [hM] at e2;cases e2;rfl
theorem r25 {h:Heap} {vb:Nat} {v:Value} {L R:List RecD} (I:IvH h vb L) (x:RSl h v R) (vr : ∀ r∈R,recB r=true) (hL:L.length≤500000) (hR:R.length≤500000) :
  ∃ h',CV 25 [ptr vb 0,v] h=some (.int .i64 0,h')∧IvH h' vb (merged L R)∧Kept h h' (· = vb):=by
 obtain ⟨h',e,i,k,_⟩:=r25B I x vr hL hR
 exact ⟨h',e,i,k⟩
theorem RLst.pushL {h:Heap} {N:Nat} {v w:Value} {L P:List RecD} (x:RLst h N v L) (y:RcS h w P) (h0:h.n0≤N) (hN:N≤h.next) (hl:L.length≤1000000) (hp:P.length≤1000000) :
  ∃ v' h',appendA 39 88 v w h=some (v',h')∧RLst h' N v' (L++P)∧Kept h h' (· = rlB v)∧(rlB v'=rlB v∨rlB v'=h.next):=by
 obtain ⟨hw,b,s,rfl,g1,g2,g3⟩:=x
 obtain ⟨hd,a,c,rfl,hn,ht,hy⟩:=y
 by_cases hz:P.length=0
 ·have hP:P = []:=List.length_eq_zero_iff.1 hz
  subst hP
  refine ⟨.slice (some ⟨b,0,s⟩) L.length L.length,h,?_,by rw [List.append_nil];exact ⟨hw,b,s,rfl,g1,g2,g3⟩,Kept.refl _ _,.inl rfl⟩
  have hf:firstA 39 0 (.slice a 0 c) h=some []:=by
   unfold firstA
   cases a with
   |none=>rfl
   |some a=>obtain ⟨b',off,s'⟩:=a;rfl
  unfold appendA
  simp only [List.length_nil,lenA,hf]
  rw [if_neg (by simp [oneCells];omega),if_pos (by omega),if_pos trivial]
 ·obtain ⟨b',off,s',k,rfl,hk,hlen,hcs⟩:=hy (by omega)
  rw [show recK.length=39 from rfl] at hlen hcs
  have cr:=recsC_ok hd
  have lp:=recsC_len hd
  have lc:=recsC_len hw
  have ok:=recsC_ok hw
  have hw' : ∀ q∈L++P,RecD.Wf q:=fun q hq=>by
   rcases List.mem_append.1 hq with h1|h1
   ·exact hw q h1
   ·exact hd q h1
  have lT:(L++P).length=L.length+P.length:=List.length_append
  have hne:L++P ≠ []:=fun e=>by
   have:=congrArg List.length e
   rw [lT,List.length_nil] at this
   omega
  have hf:firstA 39 P.length (.slice (some ⟨b',off,s'⟩) P.length c) h=some (recsC P):=by
   unfold firstA
   simp only
   rw [if_neg (by omega),hk]
   simp only
   rw [hcs,if_pos ⟨hlen,cr.1⟩]
  have hcond:(!(oneCells (recsC P)) || !(decide ((L.length+P.length)*88≤140737488355328)) || !(decide (L.length+P.length≤4611686018427387904))||decide ((recsC P).length≠P.length*39))=false:=by
   rw [cr.2,decide_eq_true (by omega:(L.length+P.length)*88≤140737488355328),decide_eq_true (by omega:L.length+P.length≤4611686018427387904),decide_eq_false (by rw [lp];simp)]
   rfl
  have hfo:firstA 39 L.length (.slice (some ⟨b,0,s⟩) L.length L.length) h=some (recsC L):=by
   unfold firstA
   simp only
   by_cases hz2:L.length*39=0
   ·rw [if_pos hz2]
    rw [List.length_eq_zero_iff.1 (by omega:L.length=0)]
    rfl
   ·have e:((recsC L).drop 0).take (L.length*39)=recsC L:=by rw [List.drop_zero,List.take_of_length_le (by omega)]
    rw [if_neg hz2,g1]
    simp only
    rw [e,if_pos ⟨by omega,ok.1⟩]
  have fin : ∀ g:Heap,N≤g.next→RLst (g.alloc (recsC L++recsC P)) N (.slice (some ⟨g.next,0,some 39⟩) (L.length+P.length) (L.length+P.length)) (L++P):=fun g hg=>
   ⟨hw',g.next,some 39,by rw [lT],by rw [Heap.get_alloc,if_pos rfl,recsC_app],hg,.inr ⟨hne,rfl⟩⟩
  rcases g3 with ⟨_,rfl⟩|⟨_,rfl⟩
  ·refine ⟨.slice (some ⟨h.next,0,some 39⟩) (L.length+P.length) (L.length+P.length),h.alloc (recsC L++recsC P),?_,fin h hN,(Kept.alloc _ _ _),.inr rfl⟩
   unfold appendA
   simp only [lenA,hf]
   rw [if_neg (by rw [hcond];decide),if_neg (by omega)]
   simp only [hfo]
   rw [if_neg (by omega)]
  ·refine ⟨.slice (some ⟨h.next,0,some 39⟩) (L.length+P.length) (L.length+P.length),(h.kill b).alloc (recsC L++recsC P),?_,fin (h.kill b) hN,?_,.inr rfl⟩
   ·unfold appendA
    simp only [lenA,hf]
    rw [if_neg (by rw [hcond];decide),if_neg (by omega)]
    simp only [hfo]
    rw [if_neg (by omega),if_pos (by rw [g1];simp;omega)]
   ·refine ⟨rfl,by simp,fun q hq hb => ?_⟩
    rw [Heap.getB_alloc,Heap.next_kill,if_neg (by omega)]
    unfold Heap.kill
    rw [h.getB_put (by omega) (h.lt_of_get g1),if_neg (show ¬q=b from hb)]
end Go.Proofs.YtdnahgfgoajmcaaDoor

namespace Go.Proofs.YtdnahgfgoajmcaaDoor
open Go Go.Abs
attribute [local congr] thenV_congr
theorem is68:IsFn Tryd.prog 68 Tryd.f68:=⟨by kernel_rfl,by kernel_rfl,by kernel_rfl,by kernel_rfl⟩
theorem is120:IsFn Tryd.prog 120 Tryd.f120:=⟨by kernel_rfl,by kernel_rfl,by kernel_rfl,by kernel_rfl⟩
theorem is28:IsFn Tryd.prog 28 Tryd.f28:=⟨by kernel_rfl,by kernel_rfl,by kernel_rfl,by kernel_rfl⟩
theorem is29:IsFn Tryd.prog 29 Tryd.f29:=⟨by kernel_rfl,by kernel_rfl,by kernel_rfl,by kernel_rfl⟩
theorem results120:Tryd.f120.results.toList = []:=by kernel_rfl
theorem results28:Tryd.f28.results.toList = [.cell 4 4]:=by kernel_rfl
theorem results29:Tryd.f29.results.toList = [.cell 4 32]:=by kernel_rfl
theorem body120:hasBody Tryd.prog 120=true:=by kernel_rfl
theorem r68 {h:Heap} (hG:4≤h.n0) (vb kd:Nat):CW 68 [ptr vb 0,.int .u8 (kd:Int)] h=some (.func (.func 120) #[] #[ptr h.next 0,ptr (h.next+1) 0],(h.alloc [ptr vb 0]).alloc [.int .u8 (kd:Int)]):=by
 have b1:box (ptr vb 0) h=some (ptr h.next 0,h.alloc [ptr vb 0]):=rfl
 have b2:box (.int .u8 (kd:Int)) (h.alloc [ptr vb 0])=some (ptr (h.next+1) 0,(h.alloc [ptr vb 0]).alloc [.int .u8 (kd:Int)]):=rfl
 refine CW_body is68 hG rfl ((t68_eq _ _ _ _).trans ?_)
 unfold t68
 simp -implicitDefEqProofs only [b1,b2,thenV_some,pu_some]
theorem u8_eqn (n k:Nat):((n:Int)==k)=decide (n=k):=by
 by_cases h:n=k
 ·subst h;simp
 ·rw [decide_eq_false h,beq_eq_false_iff_ne]
  omega
theorem b120_3e (C:CallF) (e:Env) (h:Heap):b120_3 C 0 e h=resultsA Tryd.prog Tryd.f120.results.toList e h:=rfl
set_option maxRecDepth 100000 in
theorem r120 {h:Heap} (hG:4≤h.n0) {L c1 c2 vb kd:Nat} {va:Value} {R:List RecD} (hR:R.length≤1000000) (Inv:Nat→Heap→Prop) (Fn:Heap→Prop)
  (hread : ∀ j g,Inv j g→ld1 (ptr c1 0) g=some (ptr vb 0,g)∧ld1 (ptr c2 0) g=some (.int .u8 (kd:Int),g)∧ld1 (ptr vb 0) g=some (va,g)∧RSl g va R)
  (hold : ∀ j g g',Inv j g→Old g g'→Inv j g')
  (hskip : ∀ j g (hj:j<R.length),R[j].kind≠kd→Inv j g→Inv (j+1) g)
  (hstep : ∀ j g (hj:j<R.length),R[j].kind=kd→Inv j g → ∃ b g',CW (yid Tryd.prog L) [recV R[j]] g=some (.bool b,g')∧(b=true→Inv (j+1) g')∧(b=false→Fn g')) (h0:Inv 0 h) :
  ∃ h',CW 120 [.func (.yield L) #[] #[],ptr c1 0,ptr c2 0] h=some (.tuple #[],h')∧(Inv R.length h'∨Fn h'):=by
 have key : ∃ o:Out,t120 CW (.func (.yield L) #[] #[]) (ptr c1 0) (ptr c2 0) h=o ∧ ∃ h',o=some (.tuple #[],h')∧(Inv R.length h'∨Fn h'):=by
  refine ⟨_,rfl,?_⟩
  unfold t120
  obtain ⟨q1,q2,q3,q4⟩:=hread _ _ h0
  have hll:=q4.len
  have nc:nilCheckA (ptr vb 0)=some (ptr vb 0):=rfl
  simp -implicitDefEqProofs only [q1,nil25,nc,addP_ptr,Nat.zero_add,q3,hll,thenV_some,pu_some]
  refine endL_fin (n:=28) (fin:=fun ex y g=>(ex = .exit 0∧Inv R.length g)∨(ex = .ret∧Fn g)) (Q:=fun o:Out => ∃ h',o=some (.tuple #[],h')∧(Inv R.length h'∨Fn h'))
   (loop_fin (t120l120_110_eq CW) (Inv:=fun k y g => ∃ i,i+k=R.length∧y 0 = .func (.yield L) #[] #[]∧y 2=ptr c2 0∧y 11=va∧y 12=i64n R.length∧y 13=i64n i∧Inv i g) ?_ R.length (by have:rounds=18446744073709551616:=rfl;omega) ⟨0,by omega,rfl,rfl,rfl,rfl,rfl,h0⟩) ?_
  ·rintro k y g ⟨i,hik,y0,y2,y11,y12,y13,hi⟩
   unfold t120l120_110
   simp -implicitDefEqProofs only [y12,y13,lss3,thenV_some,pu_some]
   by_cases hlt:i<R.length
   ·obtain ⟨_,_,_,P1⟩:=hread _ _ hi
    obtain ⟨b,o,ix,wr,mr,lp⟩:=P1.at hlt
    have er:R.getD i RecD.z=R[i]:=by rw [List.getD_eq_getElem?_getD,List.getElem?_eq_getElem hlt];rfl
    rw [er] at wr mr lp
    have L1:=lp g (Kept.refl _ _)
    obtain ⟨g1,g2,e1,e2,o2,gg⟩:=rec_var g wr
    have hi2:=hold _ _ _ hi o2
    obtain ⟨_,l2,_,_⟩:=hread _ _ hi2
    have A:=r_ld wr gg
    have a13:bin Tryd.prog .add 3 (i64n i) (.int .i64 1)=some (i64n (i+1)):=add31 (by omega)
    by_cases hk:R[i].kind=kd
    ·obtain ⟨bb,g3,e3,s1,s2⟩:=hstep i g2 hlt hk hi2
     have e3':callA Tryd.prog CW (.func (.yield L) #[] #[]) [recV R[i]] g2=some (.bool bb,g3):=e3
     simp -implicitDefEqProofs only [decide_eq_true hlt,y0,y2,y11,ix,L1,e1,e2,addP_ptr,Nat.zero_add,A.l0,l2,bin_eql,u8_eqn,decide_eq_true hk,show (bOf (.bool true)==some true)=true from rfl,guardK_true,A.all,e3',unA_not,if_true,thenV_some,pu_some]
     cases bb with
     |true=>
      simp -implicitDefEqProofs only [Bool.not_true,y13,a13,thenV_some,pu_some]
      exact Rnd.next (k-1) (by omega) ⟨i+1,by omega,y0,y2,y11,y12,rfl,s1 rfl⟩
     |false=>
      simp -implicitDefEqProofs only [Bool.not_false]
      exact Rnd.ret (.inr ⟨rfl,s2 rfl⟩)
    ·have hs:=hskip i g2 hlt hk hi2
     simp -implicitDefEqProofs only [decide_eq_true hlt,y0,y2,y11,ix,L1,e1,e2,addP_ptr,Nat.zero_add,A.l0,l2,bin_eql,u8_eqn,decide_eq_false hk,show (bOf (.bool false)==some true)=false from rfl,guardK_false,Bool.false_eq_true,if_false,y13,a13,thenV_some,pu_some]
     exact Rnd.next (k-1) (by omega) ⟨i+1,by omega,y0,y2,y11,y12,rfl,hs⟩
   ·have hE:i=R.length:=by omega
    subst hE
    simp -implicitDefEqProofs only [decide_eq_false hlt,thenV_some]
    exact Rnd.out 0 (.inl ⟨rfl,hi⟩)
  ·rintro ex z g (⟨rfl,hi⟩|⟨rfl,hf⟩)
   ·simp -implicitDefEqProofs only [endL_exit,b120_3e]
    rw [results120]
    exact ⟨g,rfl,.inl hi⟩
   ·rw [endL_ret,results120]
    exact ⟨g,rfl,.inr hf⟩
 obtain ⟨o9,e,h',e',q⟩:=key
 exact ⟨h',CW_body is120 hG rfl ((t120_eq _ _ _ _ _).trans (e.trans e')),q⟩
theorem take_find {R:List RecD} {Q:RecD→Bool} {j:Nat} (hj:j<R.length) (h:(R.take j).find? Q=none):(Q R[j]=false→(R.take (j+1)).find? Q=none)∧(Q R[j]=true→R.find? Q=some R[j]):=by
 constructor
 ·intro hq
  rw [List.take_succ_eq_append_getElem hj,List.find?_append,h]
  rw [List.find?_cons_of_neg (by rw [hq];decide)]
  rfl
 ·intro hq
  have e:R=R.take j++R[j]::R.drop (j+1):=by rw [←List.drop_eq_getElem_cons hj,List.take_append_drop]
  conv=>lhs;rw [e]
  rw [List.find?_append,h,List.find?_cons_of_pos hq]
  rfl
set_option maxRecDepth 100000 in
theorem each_find {c:Code} {n:Nat} (h5:9≤n) (hc0:c = .rangeFunc (.tmp 7) #[8] (rgA c) (rgB c)) (oa:codeOk Tryd.prog (rgA c)=true) (ob:codeOk Tryd.prog (rgB c)=true)
  (hA : ∀ x g,codeA Tryd.prog CW (rgA c) (mkF n x) g=thenV (newC zrC g) fun y5 g=>thenV (stN 39 y5 (x 8) g) fun _ g=>some (.normal,mkF n (up x [(5,y5)]),g))
  {p:RecD→Bool} {val:RecD→Value} {ab rb:Nat} {A:List Value} {v0:Value}
  (hB : ∀ (x:Nat→Value) (g:Heap) (r:RecD) (q5:Nat),r.Wf→4≤g.n0→g.n0≤rb→x 5=ptr q5 0→x 3=ptr ab 0→x 4=ptr rb 0→g.get q5=some (recC r)→g.get ab=some A→g.get rb=some [v0] →
   (p r=false → ∃ y g',codeA Tryd.prog CW (rgB c) (mkF n x) g=some (.normal,y,g')∧Old g g')∧(p r=true → ∃ y g',codeA Tryd.prog CW (rgB c) (mkF n x) g=some (.ret,y,g')∧Kept g g' (· = rb)∧g'.get rb=some [val r]))
  {h0 h:Heap} (hG:4≤h0.n0) (O:Old h0 h) {vb c1 c2 kd:Nat} {va:Value} {R:List RecD} (hR:R.length≤1000000) (gv:h0.get vb=some [va]) (hva:isHole va=false) (RS:RSl h0 va R)
  (hrb:h0.next≤rb) (g1:h.get c1=some [ptr vb 0]) (g2:h.get c2=some [.int .u8 (kd:Int)]) (ga:h.get ab=some A) (gr:h.get rb=some [v0]) (n1:c1≠rb) (n2:c2≠rb) (n3:ab≠rb)
  {x:Nat→Value} (x3:x 3=ptr ab 0) (x4:x 4=ptr rb 0) (x7:x 7 = .func (.func 120) #[] #[ptr c1 0,ptr c2 0]) :
  ∃ h',Kept h h' (· = rb)∧((codeA Tryd.prog CW c (mkF n x) h=some (.normal,mkF n x,h')∧R.find? (fun r=>decide (r.kind=kd)&&p r)=none∧h'.get rb=some [v0]) ∨
    (codeA Tryd.prog CW c (mkF n x) h=some (.ret,mkF n x,h') ∧ ∃ r,R.find? (fun r=>decide (r.kind=kd)&&p r)=some r∧h'.get rb=some [val r])):=by
 generalize hca:rgA c=ca at *
 generalize hcb:rgB c=cb at *
 generalize hQ:(fun r:RecD=>decide (r.kind=kd)&&p r)=Q
 have hGh:4≤h.n0:=by rw [O.n0];exact hG
 have Lp0:=LpR.new h (mkF n x) [8] ca cb
 have k0:Old h (h.allocB (.obj (.loop .ready none (mkF n x) [8] ca cb))):=Kept.allocO _ _ _
 have hrbn:=h.lt_of_get gr
 have h1n:=h.lt_of_get g1
 have h2n:=h.lt_of_get g2
 have han:=h.lt_of_get ga
 have hvn:=h0.lt_of_get gv
 have hOn:=O.next
 have n0rb:h.n0≤rb:=by rw [O.n0];exact Nat.le_trans h0.n0_le_next hrb
 generalize hh1:h.allocB (.obj (.loop .ready none (mkF n x) [8] ca cb))=h1 at *
 have hn1:h1.next=h.next+1:=by rw [←hh1];rfl
 obtain ⟨h2,e2,hres⟩:=r120 (h:=h1) (by rw [k0.n0];exact hGh) (L:=h.next) (c1:=c1) (c2:=c2) (vb:=vb) (kd:=kd) (va:=va) (R:=R) hR
  (fun j g=>Kept h g (fun b=>b=rb∨b=h.next)∧LpR g h.next (mkF n x) [8] ca cb∧h1.next≤g.next∧g.get rb=some [v0]∧(R.take j).find? Q=none)
  (fun g=>Kept h g (fun b=>b=rb∨b=h.next)∧LpD g h.next (mkF n x) [8] ca cb∧h1.next≤g.next ∧ ∃ r,R.find? Q=some r∧g.get rb=some [val r])
  (fun j g ⟨K,_,_,_,_⟩=>by
   have Og:Old h0 g:=O.also K (fun d hd q=>by rcases q with q|q<;>omega)
   refine ⟨ld1_at (K.getE g1 (fun q=>by rcases q with q|q;exact n1 q;omega)) rfl rfl,ld1_at (K.getE g2 (fun q=>by rcases q with q|q;exact n2 q;omega)) rfl rfl,ld1_at (Old.get Og gv) rfl hva,RS.mono Og⟩)
  (fun j g g' ⟨K,R1,hn,gg,hf⟩ o=>⟨K.trans (o.mono (fun _ _ h=>h.elim)),R1.keep o (fun h=>h),Nat.le_trans hn o.next,Old.get o gg,hf⟩)
  (fun j g hj hk ⟨K,R1,hn,gg,hf⟩=>⟨K,R1,hn,gg,(take_find hj hf).1 (by rw [←hQ];simp [hk])⟩)
  (fun j g hj hk ⟨K,R1,hn,gg,hf⟩=>by
   have G:4≤g.n0:=by rw [K.n0];exact hGh
   have wr:R[j].Wf:=RS.2.1 _ (List.getElem_mem hj)
   have hq:Q R[j]=p R[j]:=by rw [←hQ];simp [hk]
   have tf:=take_find hj hf
   rw [hq] at tf
   generalize R[j]=r at *
   obtain ⟨g3,g4,z3,e4,o4,g4'⟩:=rec_var g wr
   have ha:codeA Tryd.prog CW ca (putAll (mkF n x) ([8].zip [recV r])) g=some (.normal,mkF n (up (up x [(8,recV r)]) [(5,ptr g.next 0)]),g4):=by
    show codeA Tryd.prog CW ca ((mkF n x).set 8 (recV r)) g=_
    rw [mkF_set,hA]
    have y8:up x [(8,recV r)] 8=recV r:=rfl
    simp -implicitDefEqProofs only [y8,z3,e4,thenV_some,pu_some]
   have R4:LpR g4 h.next (mkF n x) [8] ca cb:=R1.keep o4 (fun h=>h)
   have R4':=R4
   unfold LpR at R4'
   have kS:Kept g4 (g4.setO h.next (.loop .busy none (mkF n x) [8] ca cb)) (· = h.next):=Go.Abs.Kept.setO R4' rfl
   have gS : ∀ b,(g4.setO h.next (.loop .busy none (mkF n x) [8] ca cb)).get b=g4.get b:=fun b=>Heap.get_setO R4' _ b
   generalize hg5:g4.setO h.next (.loop .busy none (mkF n x) [8] ca cb)=g5 at *
   have G5:4≤g5.n0:=by rw [kS.n0,o4.n0];exact G
   have q5:g5.get g.next=some (recC r):=(gS _).trans g4'
   have qr:g5.get rb=some [v0]:=(gS _).trans (Old.get o4 gg)
   have qa:g5.get ab=some A:=(gS _).trans (Old.get o4 (K.getE ga (fun q=>by rcases q with q|q;exact n3 q;omega)))
   obtain ⟨B1,B2⟩:=hB (up (up x [(8,recV r)]) [(5,ptr g.next 0)]) g5 r g.next wr G5 (by rw [kS.n0,o4.n0,K.n0];exact n0rb) rfl x3 x4 q5 qa qr
   have ho4:=o4.next
   have hk5:=kS.next
   cases hp:p r with
   |false=>
    obtain ⟨y6,g6,eb,o6⟩:=B1 hp
    obtain ⟨g8,e8,R8,n8,m8,s8,b8⟩:=LpR.round (B:=fun _=>False) R1 rfl oa ob ha o4 (fun h=>h) (by rw [hg5];exact eb) (by rw [hg5];exact o6)
    have ho6:=o6.next
    have K8:Kept g g8 (fun b=>b=rb∨b=h.next):=by
     refine ⟨m8,by omega,fun b hb hq => ?_⟩
     have q2 : ¬b=h.next:=fun q=>hq (.inr q)
     rw [b8 b q2,o6.getB b (by omega) (fun h=>h),kS.getB b (by omega) q2]
     exact Kept.getB o4 b hb (fun h=>h)
    exact ⟨true,g8,CW_yield G e8,fun _=>⟨K.trans K8,R8,by omega,(s8 rb).trans (Old.get o6 qr),tf.1 hp⟩,fun h=>by cases h⟩
   |true=>
    obtain ⟨y6,g6,eb,k6,g6r⟩:=B2 hp
    obtain ⟨g8,e8,R8,n8,m8,s8,b8⟩:=LpR.round_ret (B:=(· = rb)) R1 rfl oa ob ha (o4.mono (fun _ _ h=>h.elim)) (show ¬h.next=rb by omega) (by rw [hg5];exact eb) (by rw [hg5];exact k6)
    have ho6:=k6.next
    have K8:Kept g g8 (fun b=>b=rb∨b=h.next):=by
     refine ⟨m8,by omega,fun b hb hq => ?_⟩
     have q1 : ¬b=rb:=fun q=>hq (.inl q)
     have q2 : ¬b=h.next:=fun q=>hq (.inr q)
     rw [b8 b q2,k6.getB b (by omega) q1,kS.getB b (by omega) q2]
     exact Kept.getB o4 b hb (fun h=>h)
    exact ⟨false,g8,CW_yield G e8,(fun h=>by cases h),fun _=>⟨K.trans K8,R8,by omega,r,tf.2 hp,(s8 rb).trans g6r⟩⟩)
  ⟨k0.mono (fun _ _ h=>h.elim),Lp0,Nat.le_refl _,Old.get k0 gr,by simp⟩
 have hv:ev (mkF n x) (.tmp 7) = .func (.func 120) #[] #[ptr c1 0,ptr c2 0]:=(ev_mkF (by omega) x).trans x7
 have run:codeA Tryd.prog CW c (mkF n x) h=endLoopA h.next (mkF n x) h2:=by
  refine code_range (v := .tuple #[]) (h2:=h2) (ps := #[8]) (by rw [hca,hcb];exact hc0) hv body120 ?_
  rw [hca,hcb]
  show CW 120 [.func (.yield h.next) #[] #[],ptr c1 0,ptr c2 0] (h.allocB (.obj (.loop .ready none (mkF n x) [8] ca cb)))=_
  rw [hh1]
  exact e2
 have kfin : ∀ h3,Kept h h2 (fun b=>b=rb∨b=h.next)→Kept h2 h3 (· = h.next)→Kept h h3 (· = rb):=fun h3 K k3=>
  ⟨k3.n0.trans K.n0,Nat.le_trans K.next k3.next,fun b hb hq=>by
   rw [k3.getB b (by have:=K.next;omega) (by omega),K.getB b hb (fun q=>by rcases q with q|q;exact hq q;omega)]⟩
 rcases hres with ⟨K,R2,hn,gg,hf⟩|⟨K,R2,hn,r,hf,gg⟩
 ·obtain ⟨h3,e3,k3,_⟩:=R2.fin (e0:=mkF n x)
  rw [List.take_length] at hf
  exact ⟨h3,kfin h3 K k3,.inl ⟨run.trans e3,hf,k3.getE gg (by omega)⟩⟩
 ·obtain ⟨h3,e3,k3,_⟩:=R2.fin (e0:=mkF n x)
  exact ⟨h3,kfin h3 K k3,.inr ⟨run.trans e3,r,hf,k3.getE gg (by omega)⟩⟩
theorem ld_one {t z:Nat} (h1:aggT Tryd.prog t=some false) (h2:sizeT Tryd.prog t=some z) (v:Value) (h:Heap):ld Tryd.prog t v h=ld1 v h:=by
 unfold ld
 rw [h1,h2]
theorem res_cell1 {rs:List ResultVar} {n k t z:Nat} (hr:rs = [.cell k t]) (h1:aggT Tryd.prog t=some false) (h2:sizeT Tryd.prog t=some z) (hk:k<n) (x:Nat→Value) {h:Heap} {v:Value} (e:ld1 (x k) h=some (v,h)):resultsA Tryd.prog rs (mkF n x) h=some (v,h):=by
 subst hr
 simp only [resultsA,resultA,getD_mkF hk,ld_one h1 h2,e]
 rfl
theorem agg4:aggT Tryd.prog 4=some false:=by kernel_rfl
theorem siz4':sizeT Tryd.prog 4=some 1:=by kernel_rfl
theorem siz32':sizeT Tryd.prog 32=some 1:=by kernel_rfl
theorem agg32:aggT Tryd.prog 32=some false:=by kernel_rfl
theorem rng28:partOf Tryd.f28 [1,0,1,0] = .rangeFunc (.tmp 7) #[8] (rgA (partOf Tryd.f28 [1,0,1,0])) (rgB (partOf Tryd.f28 [1,0,1,0])):=by kernel_rfl
theorem rng28a:codeOk Tryd.prog (rgA (partOf Tryd.f28 [1,0,1,0]))=true:=by kernel_rfl
theorem rng28b:codeOk Tryd.prog (rgB (partOf Tryd.f28 [1,0,1,0]))=true:=by kernel_rfl
theorem rng29:partOf Tryd.f29 [1,0,1,0] = .rangeFunc (.tmp 7) #[8] (rgA (partOf Tryd.f29 [1,0,1,0])) (rgB (partOf Tryd.f29 [1,0,1,0])):=by kernel_rfl
theorem rng29a:codeOk Tryd.prog (rgA (partOf Tryd.f29 [1,0,1,0]))=true:=by kernel_rfl
theorem rng29b:codeOk Tryd.prog (rgB (partOf Tryd.f29 [1,0,1,0]))=true:=by kernel_rfl
theorem endN_n {α:Type} (e:Env) (h:Heap) (n r:Env→Heap→Option α) (x:Nat→Env→Heap→Option α):endN (some (.normal,e,h)) n r x=n e h:=rfl
theorem endN_r {α:Type} (e:Env) (h:Heap) (n r:Env→Heap→Option α) (x:Nat→Env→Heap→Option α):endN (some (.ret,e,h)) n r x=r e h:=rfl
theorem hole_nil {v:Value} (h:nilOk v):isHole v=false:=by rcases h with rfl|⟨a,n,c,rfl,_⟩<;>rfl
def buriedB (R:List RecD) (o:List Nat):Bool:=(R.find? fun r=>decide (r.kind=2)&&decide (r.obj=o)).isSome
set_option maxRecDepth 100000 in
theorem r28 {h:Heap} (hG:4≤h.n0) {vb:Nat} {va:Value} {R:List RecD} (gv:h.get vb=some [va]) (RS:RSl h va R) (hn:nilOk va) (hR:R.length≤1000000) {o:List Nat} (ho:D32 o) :
  ∃ h',CW 28 [ptr vb 0,.agg (u8s o).toArray] h=some (.bool (buriedB R o),h')∧Old h h':=by
 have dc:=dig_cells ho
 have b1:=box_at h (u8s o) dc.2.2
 have o1:Old h (h.alloc (u8s o)):=Kept.alloc _ _ _
 have g1:(h.alloc (u8s o)).get h.next=some (u8s o):=by rw [Heap.get_alloc,if_pos rfl]
 have n1:(h.alloc (u8s o)).next=h.next+1:=rfl
 generalize h.alloc (u8s o)=h1 at *
 obtain ⟨h2,z2,o2,g2,n2⟩:=fresh [.bool false] h1
 rw [n1] at z2 g2 n2
 have e3:=r68 (h:=h2) (by rw [o2.n0,o1.n0];exact hG) vb 2
 rw [n2] at e3
 have e3:CW 68 [ptr vb 0,.int .u8 2] h2=_:=e3
 have o3:Old h2 ((h2.alloc [ptr vb 0]).alloc [.int .u8 ((2:Nat):Int)]):=(Kept.alloc _ _ _:Old h2 (h2.alloc [ptr vb 0])).trans (Kept.alloc _ _ _)
 have q1:((h2.alloc [ptr vb 0]).alloc [.int .u8 ((2:Nat):Int)]).get (h.next+1+1)=some [ptr vb 0]:=by
  rw [Heap.get_alloc,Heap.next_alloc,if_neg (by omega),Heap.get_alloc,if_pos (by omega)]
 have q2:((h2.alloc [ptr vb 0]).alloc [.int .u8 ((2:Nat):Int)]).get (h.next+1+1+1)=some [.int .u8 ((2:Nat):Int)]:=by
  rw [Heap.get_alloc,Heap.next_alloc,if_pos (by omega)]
 generalize (h2.alloc [ptr vb 0]).alloc [.int .u8 ((2:Nat):Int)]=h3 at *
 have ga:=Old.get o3 (Old.get o2 g1)
 have gr:=Old.get o3 g2
 have O:=(o1.trans o2).trans o3
 let X:Nat→Value:=up (bs [ptr vb 0,.agg (u8s o).toArray]) [(3,ptr h.next 0),(4,ptr (h.next+1) 0),(6,ptr vb 0),(7,.func (.func 120) #[] #[ptr (h.next+1+1) 0,ptr (h.next+1+1+1) 0])]
 obtain ⟨h4,K4,hres⟩:=each_find (n:=13) (by decide) rng28 rng28a rng28b (p:=fun r=>decide (r.obj=o)) (val:=fun _ => .bool true) (ab:=h.next) (rb:=h.next+1) (A:=u8s o) (v0 := .bool false)
  (fun x g=>t28l28_1010a_eq CW x g)
  (fun x g r q5 wr hg hr x5 x3 x4 g5 gA gR=>by
   have l1:=(r_ld wr g5).l1
   have l3:=ldN_all gA dc.1 dc.2.1
   constructor
   ·intro hp
    refine ⟨_,g,(t28l28_1010b_eq CW x g).trans (by
     unfold t28l28_1010b
     simp -implicitDefEqProofs only [x5,x3,addP_ptr,Nat.zero_add,l1,l3,eqD35 wr.obj ho,hp,thenV_some,pu_some]
     rfl),Kept.refl _ _⟩
   ·intro hp
    have st:stN 1 (ptr (h.next+1) 0) (.bool true) g=some (undef,g.set (h.next+1) [.bool true]):=stN1_at gR (Nat.zero_lt_one) hr rfl rfl
    refine ⟨_,g.set (h.next+1) [.bool true],(t28l28_1010b_eq CW x g).trans (by
     unfold t28l28_1010b
     simp -implicitDefEqProofs only [x5,x3,x4,addP_ptr,Nat.zero_add,l1,l3,eqD35 wr.obj ho,hp,st,thenV_some,pu_some]
     rfl),Kept.set hr gR (.inr rfl),(by
     unfold Heap.set
     rw [g.get_put hr (g.lt_of_get gR),if_pos rfl]
     rfl)⟩)
  hG O (vb:=vb) (c1:=h.next+1+1) (c2:=h.next+1+1+1) (kd:=2) (va:=va) hR gv (hole_nil hn) RS (by omega) q1 q2 ga gr (by omega) (by omega) (by omega) (x:=X) rfl rfl rfl
 have hnn:=h.n0_le_next
 rcases hres with ⟨er,hf,g4⟩|⟨er,r,hf,g4⟩
 ·have n4:h4.n0≤h.next+1:=by rw [K4.n0,O.n0];omega
  have st:stN 1 (ptr (h.next+1) 0) (.bool false) h4=some (undef,h4.set (h.next+1) [.bool false]):=stN1_at g4 (Nat.zero_lt_one) n4 rfl rfl
  have ks:Kept h4 (h4.set (h.next+1) [.bool false]) (· = h.next+1):=Kept.set n4 g4 (.inr rfl)
  have g5:(h4.set (h.next+1) [.bool false]).get (h.next+1)=some [.bool false]:=by
   unfold Heap.set
   rw [h4.get_put n4 (h4.lt_of_get g4),if_pos rfl]
   rfl
  refine ⟨h4.set (h.next+1) [.bool false],CW_body is28 hG rfl ((t28_eq _ _ _ _).trans ?_),O.also (K4.trans ks) (fun d hd q=>by omega)⟩
  unfold t28
  simp -implicitDefEqProofs only [b1,z2,e3,thenV_some,pu_some]
  refine (congrArg (fun o=>endN o (k28_1 CW) (resultsA Tryd.prog Tryd.f28.results.toList) (b28_3 CW)) er).trans ?_
  rw [endN_n,t28k28_1_eq]
  unfold t28k28_1
  have x4:X 4=ptr (h.next+1) 0:=rfl
  simp -implicitDefEqProofs only [x4,st,thenV_some]
  have hb:buriedB R o=false:=by unfold buriedB;rw [hf];rfl
  rw [hb]
  exact res_cell1 results28 agg4 siz4' (by decide) _ (ld1_at g5 rfl rfl)
 ·refine ⟨h4,CW_body is28 hG rfl ((t28_eq _ _ _ _).trans ?_),O.also K4 (fun d hd q=>by omega)⟩
  unfold t28
  simp -implicitDefEqProofs only [b1,z2,e3,thenV_some,pu_some]
  refine (congrArg (fun o=>endN o (k28_1 CW) (resultsA Tryd.prog Tryd.f28.results.toList) (b28_3 CW)) er).trans ?_
  rw [endN_r]
  have hb:buriedB R o=true:=by unfold buriedB;rw [hf];rfl
  rw [hb]
  exact res_cell1 results28 agg4 siz4' (by decide) _ (ld1_at g4 rfl rfl)
def baseN (R:List RecD) (n:Int):Nat:=((R.find? fun r=>decide (r.kind=1)&&decide (r.holder=n)).getD RecD.z).inc
theorem eqI (a b:Int):bin Tryd.prog .eql 3 (.int .i64 a) (.int .i64 b)=some (.bool (decide (a=b))):=by rw [bin_eql];rfl
set_option maxRecDepth 100000 in
theorem r29 {h:Heap} (hG:4≤h.n0) {vb:Nat} {va:Value} {R:List RecD} (gv:h.get vb=some [va]) (RS:RSl h va R) (hn:nilOk va) (hR:R.length≤1000000) (hl:Int) :
  ∃ h',CW 29 [ptr vb 0,.int .i64 hl] h=some (.int .u64 (baseN R hl:Int),h')∧Old h h':=by
 have b1:box (.int .i64 hl) h=some (ptr h.next 0,h.alloc [.int .i64 hl]):=rfl
 have o1:Old h (h.alloc [.int .i64 hl]):=Kept.alloc _ _ _
 have g1:(h.alloc [.int .i64 hl]).get h.next=some [.int .i64 hl]:=by rw [Heap.get_alloc,if_pos rfl]
 have n1:(h.alloc [.int .i64 hl]).next=h.next+1:=rfl
 generalize h.alloc [.int .i64 hl]=h1 at *
 obtain ⟨h2,z2,o2,g2,n2⟩:=fresh [.int .u64 0] h1
 rw [n1] at z2 g2 n2
 have e3:=r68 (h:=h2) (by rw [o2.n0,o1.n0];exact hG) vb 1
 rw [n2] at e3
 have e3:CW 68 [ptr vb 0,.int .u8 1] h2=_:=e3
 have o3:Old h2 ((h2.alloc [ptr vb 0]).alloc [.int .u8 ((1:Nat):Int)]):=(Kept.alloc _ _ _:Old h2 (h2.alloc [ptr vb 0])).trans (Kept.alloc _ _ _)
 have q1:((h2.alloc [ptr vb 0]).alloc [.int .u8 ((1:Nat):Int)]).get (h.next+1+1)=some [ptr vb 0]:=by
  rw [Heap.get_alloc,Heap.next_alloc,if_neg (by omega),Heap.get_alloc,if_pos (by omega)]
 have q2:((h2.alloc [ptr vb 0]).alloc [.int .u8 ((1:Nat):Int)]).get (h.next+1+1+1)=some [.int .u8 ((1:Nat):Int)]:=by
  rw [Heap.get_alloc,Heap.next_alloc,if_pos (by omega)]
 generalize (h2.alloc [ptr vb 0]).alloc [.int .u8 ((1:Nat):Int)]=h3 at *
 have ga:=Old.get o3 (Old.get o2 g1)
 have gr:=Old.get o3 g2
 have O:=(o1.trans o2).trans o3
 let X:Nat→Value:=up (bs [ptr vb 0,.int .i64 hl]) [(3,ptr h.next 0),(4,ptr (h.next+1) 0),(6,ptr vb 0),(7,.func (.func 120) #[] #[ptr (h.next+1+1) 0,ptr (h.next+1+1+1) 0])]
 obtain ⟨h4,K4,hres⟩:=each_find (n:=15) (by decide) rng29 rng29a rng29b (p:=fun r=>decide (r.holder=hl)) (val:=fun r => .int .u64 (r.inc:Int)) (ab:=h.next) (rb:=h.next+1) (A := [.int .i64 hl]) (v0 := .int .u64 0)
  (fun x g=>t29l29_1010a_eq CW x g)
  (fun x g r q5 wr hg hr x5 x3 x4 g5 gA gR=>by
   have l33:=(r_ld wr g5).l33
   have l34:=(r_ld wr g5).l34
   have l3:ld1 (ptr h.next 0) g=some (.int .i64 hl,g):=ld1_at gA rfl rfl
   constructor
   ·intro hp
    refine ⟨_,g,(t29l29_1010b_eq CW x g).trans (by
     unfold t29l29_1010b
     simp -implicitDefEqProofs only [x5,x3,addP_ptr,Nat.zero_add,l33,l3,eqI,hp,thenV_some,pu_some]
     rfl),Kept.refl _ _⟩
   ·intro hp
    have st:stN 1 (ptr (h.next+1) 0) (.int .u64 (r.inc:Int)) g=some (undef,g.set (h.next+1) [.int .u64 (r.inc:Int)]):=stN1_at gR (Nat.zero_lt_one) hr rfl rfl
    refine ⟨_,g.set (h.next+1) [.int .u64 (r.inc:Int)],(t29l29_1010b_eq CW x g).trans (by
     unfold t29l29_1010b
     simp -implicitDefEqProofs only [x5,x3,x4,addP_ptr,Nat.zero_add,l33,l34,l3,eqI,hp,st,thenV_some,pu_some]
     rfl),Kept.set hr gR (.inr rfl),(by
     unfold Heap.set
     rw [g.get_put hr (g.lt_of_get gR),if_pos rfl]
     rfl)⟩)
  hG O (vb:=vb) (c1:=h.next+1+1) (c2:=h.next+1+1+1) (kd:=1) (va:=va) hR gv (hole_nil hn) RS (by omega) q1 q2 ga gr (by omega) (by omega) (by omega) (x:=X) rfl rfl rfl
 have hnn:=h.n0_le_next
 rcases hres with ⟨er,hf,g4⟩|⟨er,r,hf,g4⟩
 ·have n4:h4.n0≤h.next+1:=by rw [K4.n0,O.n0];omega
  have st:stN 1 (ptr (h.next+1) 0) (.int .u64 0) h4=some (undef,h4.set (h.next+1) [.int .u64 0]):=stN1_at g4 (Nat.zero_lt_one) n4 rfl rfl
  have ks:Kept h4 (h4.set (h.next+1) [.int .u64 0]) (· = h.next+1):=Kept.set n4 g4 (.inr rfl)
  have g5:(h4.set (h.next+1) [.int .u64 0]).get (h.next+1)=some [.int .u64 0]:=by
   unfold Heap.set
   rw [h4.get_put n4 (h4.lt_of_get g4),if_pos rfl]
   rfl
  refine ⟨h4.set (h.next+1) [.int .u64 0],CW_body is29 hG rfl ((t29_eq _ _ _ _).trans ?_),O.also (K4.trans ks) (fun d hd q=>by omega)⟩
  unfold t29
  simp -implicitDefEqProofs only [b1,z2,e3,thenV_some,pu_some]
  refine (congrArg (fun o=>endN o (k29_1 CW) (resultsA Tryd.prog Tryd.f29.results.toList) (b29_3 CW)) er).trans ?_
  rw [endN_n,t29k29_1_eq]
  unfold t29k29_1
  have x4:X 4=ptr (h.next+1) 0:=rfl
  simp -implicitDefEqProofs only [x4,st,thenV_some]
  have hb:baseN R hl=0:=by unfold baseN;rw [hf];rfl
  rw [hb]
  exact res_cell1 results29 agg32 siz32' (by decide) _ (ld1_at g5 rfl rfl)
 ·refine ⟨h4,CW_body is29 hG rfl ((t29_eq _ _ _ _).trans ?_),O.also K4 (fun d hd q=>by omega)⟩
  unfold t29
  simp -implicitDefEqProofs only [b1,z2,e3,thenV_some,pu_some]
  refine (congrArg (fun o=>endN o (k29_1 CW) (resultsA Tryd.prog Tryd.f29.results.toList) (b29_3 CW)) er).trans ?_
  rw [endN_r]
  have hb:baseN R hl=r.inc:=by unfold baseN;rw [hf];rfl
  rw [hb]
  exact res_cell1 results29 agg32 siz32' (by decide) _ (ld1_at g4 rfl rfl)
end Go.Proofs.YtdnahgfgoajmcaaDoor

namespace Go.Proofs.YtdnahgfgoajmcaaDoor
open Go Go.Abs
attribute [local congr] thenV_congr
theorem RSl.rd {h:Heap} {v:Value} {L:List RecD} (x:RSl h v L) {j:Nat} (hj:j<L.length) : ∃ b o,idxS 39 v (i64n j)=some (ptr b o)∧L[j].Wf ∧ ∀ g:Heap,Old h g→ldN 39 (ptr b o) g=some (recV L[j],g):=by
 obtain ⟨b,o,ix,wr,_,lp⟩:=x.at hj
 have e:L.getD j RecD.z=L[j]:=by rw [List.getD_eq_getElem?_getD,List.getElem?_eq_getElem hj];rfl
 rw [e] at wr lp
 exact ⟨b,o,ix,wr,lp⟩
theorem any_take {α:Type} {L:List α} {i:Nat} (hi:i<L.length) (p:α→Bool):(L.take (i+1)).any p=((L.take i).any p||p L[i]):=by
 rw [List.take_succ_eq_append_getElem hi,List.any_append]
 simp
theorem bt:(bOf (.bool true)==some true)=true:=rfl
theorem bt':(bOf (.bool true)==some false)=false:=rfl
theorem bf:(bOf (.bool false)==some false)=true:=rfl
theorem bf':(bOf (.bool false)==some true)=false:=rfl
theorem bu:(bOf undef==some false)=false:=rfl
theorem bu':(bOf undef==some true)=false:=rfl
theorem rec_parts {b o:Nat} {g:Heap} {r:RecD} (w:r.Wf) (e:ldN 39 (ptr b o) g=some (recV r,g)) :
  ld1 (ptr b (o+0)) g=some (.int .u8 (r.kind:Int),g)∧ldN 32 (ptr b (o+1)) g=some (.agg (u8s r.obj).toArray,g)∧ld1 (ptr b (o+33)) g=some (.int .i64 r.holder,g)∧ld1 (ptr b (o+34)) g=some (.int .u64 (r.inc:Int),g):=by
 obtain ⟨k,hk,hl⟩:=ldN_len (by decide) e
 have hh:(k.drop o).take 39=recC r:=by
  unfold ldN ptr at e
  simp only [hk] at e
  split at e
  ·simp only [Option.some.injEq,Prod.mk.injEq,Value.agg.injEq,and_true] at e
   exact congrArg Array.toList e
  ·cases e
 have ho:(u8s r.obj).length=32:=by rw [List.length_map];exact w.obj.1
 have at_ : ∀ i v,i<39→(recC r)[i]? = some v→k[o+i]? = some v:=fun i v hi h=>by
  rw [←hh,List.getElem?_take,if_pos hi,List.getElem?_drop] at h
  exact h
 have tl : ∀ i v,[Value.int .i64 r.holder,.int .u64 (r.inc:Int),.int .u64 (r.num:Int),.bool r.held,.int .i64 r.k,.int .i64 r.n][i]? = some v→(recC r)[33+i]? = some v:=fun i v e=>by
  unfold recC
  rw [show 33+i=(32+i)+1 by omega,List.getElem?_cons_succ,List.getElem?_append_right (by omega),ho,Nat.add_sub_cancel_left]
  exact e
 refine ⟨ld1_at hk (at_ 0 _ (by decide) rfl) rfl,?_,ld1_at hk (at_ 33 _ (by decide) (tl 0 _ rfl)) rfl,ld1_at hk (at_ 34 _ (by decide) (tl 1 _ rfl)) rfl⟩
 have h32:(k.drop (o+1)).take 32=u8s r.obj:=by
  have e1:((recC r).drop 1).take 32=u8s r.obj:=by
   unfold recC
   rw [List.drop_succ_cons,List.drop_zero,List.take_left' ho]
  rw [←e1,←hh,List.drop_take,List.take_take,List.drop_drop]
  rfl
 have:=ldN_at (o:=o+1) (n:=32) hk (by omega) (by rw [h32];exact (dig_typed w.obj).all.1)
 rw [h32] at this
 exact this
theorem rec_parts2 {b o:Nat} {g:Heap} {r:RecD} (w:r.Wf) (e:ldN 39 (ptr b o) g=some (recV r,g)) :
  ld1 (ptr b (o+36)) g=some (.bool r.held,g)∧ld1 (ptr b (o+37)) g=some (.int .i64 r.k,g)∧ld1 (ptr b (o+38)) g=some (.int .i64 r.n,g):=by
 obtain ⟨k,hk,hl⟩:=ldN_len (by decide) e
 have hh:(k.drop o).take 39=recC r:=by
  unfold ldN ptr at e
  simp only [hk] at e
  split at e
  ·simp only [Option.some.injEq,Prod.mk.injEq,Value.agg.injEq,and_true] at e
   exact congrArg Array.toList e
  ·cases e
 have ho:(u8s r.obj).length=32:=by rw [List.length_map];exact w.obj.1
 have at_ : ∀ i v,i<39→(recC r)[i]? = some v→k[o+i]? = some v:=fun i v hi h=>by
  rw [←hh,List.getElem?_take,if_pos hi,List.getElem?_drop] at h
  exact h
 have tl : ∀ i v,[Value.int .i64 r.holder,.int .u64 (r.inc:Int),.int .u64 (r.num:Int),.bool r.held,.int .i64 r.k,.int .i64 r.n][i]? = some v→(recC r)[33+i]? = some v:=fun i v e=>by
  unfold recC
  rw [show 33+i=(32+i)+1 by omega,List.getElem?_cons_succ,List.getElem?_append_right (by omega),ho,Nat.add_sub_cancel_left]
  exact e
 exact ⟨ld1_at hk (at_ 36 _ (by decide) (tl 3 _ rfl)) rfl,ld1_at hk (at_ 37 _ (by decide) (tl 4 _ rfl)) rfl,ld1_at hk (at_ 38 _ (by decide) (tl 5 _ rfl)) rfl⟩
theorem eq56 (n:Nat):bin Tryd.prog .eql 56 (.int .u8 (n:Int)) (.int .u8 3)=some (.bool (decide (n=3))):=by rw [bin_eql,u8_eq3]
theorem sub31 {i:Nat} (h:0<i) (hi:i≤1000000):bin Tryd.prog .sub 3 (i64n i) (.int .i64 1)=some (i64n (i-1)):=by
 unfold i64n
 rw [bin_sub,wrap_i64 (by omega) (by omega)]
 congr 2
 omega
theorem chkJ (r:Out) (v:Value):chkR false r v=true:=rfl
end Go.Proofs.YtdnahgfgoajmcaaDoor

namespace Go.Proofs.YtdnahgfgoajmcaaDoor
open Go Go.Abs
attribute [local congr] thenV_congr
def gsB:Value→Option Nat
 | .slice (some ⟨b,_,_⟩) _ _=>some b
 |_=>none
structure GLst (z:Nat) (h:Heap) (N:Nat) (v:Value) (n:Nat) (cs:List Value):Prop where
 len:cs.length=n*z
 hol:Abs.noHoles cs=true
 one:oneCells cs=true
 form:(n=0∧v = .slice none 0 0) ∨ ∃ b s,v = .slice (some ⟨b,0,s⟩) n n∧h.get b=some cs∧N≤b∧((n=0∧s=none)∨(0<n∧s=some z))
theorem GLst.nil (z:Nat) (h:Heap) (N:Nat):GLst z h N (.slice none 0 0) 0 []:=⟨by simp,rfl,rfl,.inl ⟨rfl,rfl⟩⟩
theorem GLst.new (z:Nat) (h:Heap) (N:Nat) (hN:N≤h.next):GLst z (h.alloc []) N (.slice (some ⟨h.next,0,none⟩) 0 0) 0 []:=⟨by simp,rfl,rfl,.inr ⟨h.next,none,rfl,by rw [Heap.get_alloc,if_pos rfl],hN,.inl ⟨rfl,rfl⟩⟩⟩
theorem GLst.old {z:Nat} {h h':Heap} {N:Nat} {v:Value} {n:Nat} {cs:List Value} (x:GLst z h N v n cs) (o:Old h h'):GLst z h' N v n cs:=by
 refine ⟨x.len,x.hol,x.one,?_⟩
 rcases x.form with f|⟨b,s,e,g,f⟩
 ·exact .inl f
 ·exact .inr ⟨b,s,e,Old.get o g,f⟩
theorem GLst.lenL {z:Nat} {h:Heap} {N:Nat} {v:Value} {n:Nat} {cs:List Value} (x:GLst z h N v n cs):Abs.lenL v=some (i64n n):=by
 rcases x.form with ⟨rfl,rfl⟩|⟨b,s,rfl,_⟩<;>rfl
theorem GLst.blk {z:Nat} {h:Heap} {N:Nat} {v:Value} {n:Nat} {cs:List Value} (x:GLst z h N v n cs) {b:Nat} (e:gsB v=some b):N≤b∧b<h.next:=by
 rcases x.form with ⟨_,rfl⟩|⟨b',s,rfl,g,hN,_⟩
 ·cases e
 ·cases e
  exact ⟨hN,h.lt_of_get g⟩
theorem GLst.push {z by_:Nat} {h:Heap} {N c:Nat} {v:Value} {n:Nat} {cs e:List Value} (x:GLst z h N v n cs) (hz:0<z) (hb:by_≤1000) (h0:h.n0≤N) (hN:N≤h.next) (hl:n≤1000000) (he:e.length=z) (ho:Abs.noHoles e=true) (h1:oneCells e=true) (hc:h.get c=some e) :
  ∃ v' h',appendA z by_ v (.slice (some ⟨c,0,none⟩) 1 1) h=some (v',h')∧GLst z h' N v' (n+1) (cs++e)∧Kept h h' (fun b=>gsB v=some b):=by
 have hlen:=x.len
 have hf:firstA z 1 (.slice (some ⟨c,0,none⟩) 1 1) h=some e:=by
  have e1:(e.drop 0).take (1*z)=e:=by rw [List.drop_zero,Nat.one_mul,List.take_of_length_le (by omega)]
  unfold firstA
  simp only
  rw [if_neg (by omega),hc]
  simp only
  rw [e1,if_pos ⟨by omega,ho⟩]
 have hcond:(!(oneCells e) || !(decide ((n+1)*by_≤140737488355328)) || !(decide (n+1≤4611686018427387904))||decide (e.length≠1*z))=false:=by
  have h5:(n+1)*by_≤1000001*1000:=Nat.mul_le_mul (by omega) hb
  rw [h1,decide_eq_true (by omega:(n+1)*by_≤140737488355328),decide_eq_true (by omega:n+1≤4611686018427387904),decide_eq_false (by omega)]
  rfl
 have hlen':(cs++e).length=(n+1)*z:=by rw [List.length_append,hlen,he,Nat.add_mul,Nat.one_mul]
 have hol':Abs.noHoles (cs++e)=true:=by
  have h2:=x.hol
  unfold Abs.noHoles at *
  rw [List.all_append,h2,ho];rfl
 have one':oneCells (cs++e)=true:=by
  have h2:=x.one
  unfold oneCells at *
  rw [List.all_append,h2,h1];rfl
 have fin : ∀ g:Heap,N≤g.next→GLst z (g.alloc (cs++e)) N (.slice (some ⟨g.next,0,some z⟩) (n+1) (n+1)) (n+1) (cs++e):=fun g hg=>
  ⟨hlen',hol',one',.inr ⟨g.next,some z,rfl,by rw [Heap.get_alloc,if_pos rfl],hg,.inr ⟨by omega,rfl⟩⟩⟩
 rcases x.form with ⟨rfl,rfl⟩|⟨b,s,rfl,g1,g2,g3⟩
 ·have hcs:cs = []:=List.eq_nil_of_length_eq_zero (by rw [hlen,Nat.zero_mul])
  subst hcs
  refine ⟨.slice (some ⟨h.next,0,some z⟩) 1 1,h.alloc ([]++e),?_,fin h hN,Kept.alloc _ _ _⟩
  unfold appendA
  simp only [lenA,hf]
  rw [if_neg (by rw [hcond];decide),if_neg (by decide)]
  rfl
 ·have hfo:firstA z n (.slice (some ⟨b,0,s⟩) n n) h=some cs:=by
   unfold firstA
   simp only
   by_cases hz2:n*z=0
   ·rw [if_pos hz2,List.eq_nil_of_length_eq_zero (by omega:cs.length=0)]
   ·have e2:(cs.drop 0).take (n*z)=cs:=by rw [List.drop_zero,List.take_of_length_le (by omega)]
    rw [if_neg hz2,g1]
    simp only
    rw [e2,if_pos ⟨by omega,x.hol⟩]
  rcases g3 with ⟨_,rfl⟩|⟨_,rfl⟩
  ·refine ⟨.slice (some ⟨h.next,0,some z⟩) (n+1) (n+1),h.alloc (cs++e),?_,fin h hN,Kept.alloc _ _ _⟩
   unfold appendA
   simp only [lenA,hf]
   rw [if_neg (by rw [hcond];decide),if_neg (by omega)]
   simp only [hfo]
   rw [if_neg (by omega)]
  ·refine ⟨.slice (some ⟨h.next,0,some z⟩) (n+1) (n+1),(h.kill b).alloc (cs++e),?_,fin (h.kill b) hN,?_⟩
   ·unfold appendA
    simp only [lenA,hf]
    rw [if_neg (by rw [hcond];decide),if_neg (by omega)]
    simp only [hfo]
    rw [if_neg (by omega),if_pos (by rw [g1];simp;omega)]
   ·refine ⟨rfl,by simp,fun q hq hb => ?_⟩
    rw [Heap.getB_alloc,Heap.next_kill,if_neg (by omega)]
    unfold Heap.kill
    rw [h.getB_put (by omega) (h.lt_of_get g1),if_neg (fun e=>hb (by rw [e];rfl))]
theorem GLst.at {z:Nat} {h:Heap} {N:Nat} {v:Value} {n:Nat} {cs:List Value} (x:GLst z h N v n cs) {j:Nat} (hj:j<n) : ∃ b,idxS z v (i64n j)=some (ptr b (j*z))∧h.get b=some cs∧N≤b:=by
 rcases x.form with ⟨rfl,_⟩|⟨b,s,rfl,g1,g2,_⟩
 ·exact absurd hj (Nat.not_lt_zero j)
 ·refine ⟨b,?_,g1,g2⟩
  unfold idxS i64n
  simp only
  rw [if_pos (by omega),Int.toNat_natCast,Nat.zero_add]
theorem find_take {R:List RecD} {Q:RecD→Bool} {i:Nat} (hi:i<R.length) (h:(R.take i).find? Q=none):(Q R[i]=false→(R.take (i+1)).find? Q=none)∧(Q R[i]=true→R.find? Q=some R[i]):=take_find hi h
theorem eql56 (n k:Nat) (m:Int) (e:m=k):bin Tryd.prog .eql 56 (.int .u8 (n:Int)) (.int .u8 m)=some (.bool (decide (n=k))):=by subst e;rw [bin_eql,u8_eqn]
theorem RSl.parts {h:Heap} {v:Value} {L:List RecD} (x:RSl h v L) {j:Nat} (hj:j<L.length) : ∃ b o,idxS 39 v (i64n j)=some (ptr b o)∧L[j].Wf ∧ ∀ g:Heap,Old h g→ldN 39 (ptr b o) g=some (recV L[j],g)∧ld1 (ptr b (o+0)) g=some (.int .u8 (L[j].kind:Int),g)∧ldN 32 (ptr b (o+1)) g=some (.agg (u8s L[j].obj).toArray,g)∧ld1 (ptr b (o+33)) g=some (.int .i64 L[j].holder,g)∧ld1 (ptr b (o+34)) g=some (.int .u64 (L[j].inc:Int),g)∧ld1 (ptr b (o+36)) g=some (.bool L[j].held,g)∧ld1 (ptr b (o+37)) g=some (.int .i64 L[j].k,g)∧ld1 (ptr b (o+38)) g=some (.int .i64 L[j].n,g):=by
 obtain ⟨b,o,ix,wr,ld⟩:=x.rd hj
 refine ⟨b,o,ix,wr,fun g og => ?_⟩
 have e:=ld g og
 obtain ⟨p0,p1,p33,p34⟩:=rec_parts wr e
 obtain ⟨p36,p37,p38⟩:=rec_parts2 wr e
 exact ⟨e,p0,p1,p33,p34,p36,p37,p38⟩
theorem b77_3e (C:CallF) (e:Env) (h:Heap):b77_3 C 0 e h=k77_1 C e h:=rfl
theorem b78_3e (C:CallF) (e:Env) (h:Heap):b78_3 C 0 e h=k78_1 C e h:=rfl
theorem b74_3e (C:CallF) (e:Env) (h:Heap):b74_3 C 0 e h=k74_1 C e h:=rfl
theorem b76_3e (C:CallF) (e:Env) (h:Heap):b76_3 C 0 e h=k76_1 C e h:=rfl
theorem b80_4e (C:CallF) (e:Env) (h:Heap):b80_4 C 0 e h=k80_2 C e h:=rfl
theorem b36_4e (C:CallF) (e:Env) (h:Heap):b36_4 C 0 e h=k36_2 C e h:=rfl
theorem is77:IsFn Tryd.prog 77 Tryd.f77:=⟨by kernel_rfl,by kernel_rfl,by kernel_rfl,by kernel_rfl⟩
theorem is78:IsFn Tryd.prog 78 Tryd.f78:=⟨by kernel_rfl,by kernel_rfl,by kernel_rfl,by kernel_rfl⟩
theorem is74:IsFn Tryd.prog 74 Tryd.f74:=⟨by kernel_rfl,by kernel_rfl,by kernel_rfl,by kernel_rfl⟩
theorem is76:IsFn Tryd.prog 76 Tryd.f76:=⟨by kernel_rfl,by kernel_rfl,by kernel_rfl,by kernel_rfl⟩
theorem is80:IsFn Tryd.prog 80 Tryd.f80:=⟨by kernel_rfl,by kernel_rfl,by kernel_rfl,by kernel_rfl⟩
theorem is36:IsFn Tryd.prog 36 Tryd.f36:=⟨by kernel_rfl,by kernel_rfl,by kernel_rfl,by kernel_rfl⟩
theorem results77:Tryd.f77.results.toList = [.tmp 4]:=by kernel_rfl
theorem results78:Tryd.f78.results.toList = [.tmp 4]:=by kernel_rfl
theorem results74:Tryd.f74.results.toList = [.cell 6 58,.tmp 7]:=by kernel_rfl
theorem results76:Tryd.f76.results.toList = [.tmp 4,.tmp 5]:=by kernel_rfl
set_option maxRecDepth 100000 in
theorem r77 {h:Heap} (hG:4≤h.n0) {v:Value} {R:List RecD} (hv:RSl h v R) (hR:R.length≤1000000) (hl:Int):CW 77 [v,.int .i64 hl] h=some (.int .u64 (baseN R hl:Int),h):=by
 have hll:=hv.len
 refine CW_body is77 hG rfl ((t77_eq _ _ _ _).trans ?_)
 unfold t77
 simp -implicitDefEqProofs only [thenV_some]
 refine endL_fin (n:=32) (fin:=fun ex y g=>g=h∧((ex = .exit 0∧R.find? (fun r=>decide (r.kind=1)&&decide (r.holder=hl))=none)∨(ex = .ret∧y 4 = .int .u64 (baseN R hl:Int)))) (Q:=fun o:Out=>o=some (.int .u64 (baseN R hl:Int),h))
  (loop_fin (t77l77_1010_eq CW) (Inv:=fun k y g => ∃ i,i+k=R.length∧y 0=v∧y 1 = .int .i64 hl∧y 5=i64n i∧g=h∧(R.take i).find? (fun r=>decide (r.kind=1)&&decide (r.holder=hl))=none) ?_ R.length (by have:rounds=18446744073709551616:=rfl;omega) ⟨0,by omega,rfl,rfl,rfl,rfl,by simp⟩) ?_
 ·rintro k y g ⟨i,hik,y0,y1,y5,rfl,hf⟩
  unfold t77l77_1010
  simp -implicitDefEqProofs only [y0,y5,hll,lss3,thenV_some,pu_some]
  by_cases hi:i<R.length
  ·obtain ⟨b,o,ix,wr,ld⟩:=hv.parts hi
   obtain ⟨_,p0,_,p33,p34,_⟩:=ld g (Kept.refl _ _)
   obtain ⟨f1,f2⟩:=find_take hi hf
   have a5:bin Tryd.prog .add 3 (i64n i) (.int .i64 1)=some (i64n (i+1)):=add31 (by omega)
   by_cases hk:R[i].kind=1
   ·by_cases hh:R[i].holder=hl
    ·simp -implicitDefEqProofs only [decide_eq_true hi,ix,addP_ptr,p0,eql56 R[i].kind 1 1 rfl,decide_eq_true hk,bt,guardK_true,p33,y1,eqI,decide_eq_true hh,if_true,p34,thenV_some,pu_some]
     refine Rnd.ret ⟨rfl,.inr ⟨rfl,?_⟩⟩
     unfold baseN
     rw [f2 (by simp [hk,hh])]
     rfl
    ·simp -implicitDefEqProofs only [decide_eq_true hi,ix,addP_ptr,p0,eql56 R[i].kind 1 1 rfl,decide_eq_true hk,bt,guardK_true,p33,y1,eqI,decide_eq_false hh,if_true,a5,thenV_some,pu_some]
     exact Rnd.next (k-1) (by omega) ⟨i+1,by omega,y0,y1,rfl,rfl,f1 (by simp [hh])⟩
   ·simp -implicitDefEqProofs only [decide_eq_true hi,ix,addP_ptr,p0,eql56 R[i].kind 1 1 rfl,decide_eq_false hk,bf',guardK_false,Bool.false_eq_true,if_false,a5,thenV_some,pu_some]
    exact Rnd.next (k-1) (by omega) ⟨i+1,by omega,y0,y1,rfl,rfl,f1 (by simp [hk])⟩
  ·have hE:i=R.length:=by omega
   rw [hE,List.take_length] at hf
   simp -implicitDefEqProofs only [decide_eq_false hi,thenV_some]
   exact Rnd.out 0 ⟨rfl,.inl ⟨rfl,hf⟩⟩
 ·rintro ex z g ⟨rfl,⟨rfl,q⟩|⟨rfl,z4⟩⟩
  ·simp -implicitDefEqProofs only [endL_exit,b77_3e,t77k77_1_eq]
   unfold t77k77_1
   have:baseN R hl=0:=by unfold baseN;rw [q];rfl
   rw [this]
   rfl
  ·rw [endL_ret,res_one results77 (by decide),z4]
end Go.Proofs.YtdnahgfgoajmcaaDoor

namespace Go.Proofs.YtdnahgfgoajmcaaDoor
open Go Go.Abs
attribute [local congr] thenV_congr
theorem res_two {rs:List ResultVar} {n j k:Nat} (hr:rs = [.tmp j,.tmp k]) (hj:j<n) (hk:k<n) (x:Nat→Value) (h:Heap):resultsA Tryd.prog rs (mkF n x) h=some (.tuple #[x j,x k],h):=by
 subst hr
 simp only [resultsA,List.mapM_cons,List.mapM_nil,resultA,getD_mkF hj,getD_mkF hk]
 rfl
set_option maxRecDepth 100000 in
theorem r78 {h:Heap} (hG:4≤h.n0) {v:Value} {R:List RecD} (hv:RSl h v R) (hR:R.length≤1000000) {o:List Nat} (ho:D32 o) : ∃ h',CW 78 [v,.agg (u8s o).toArray] h=some (.bool (buriedB R o),h')∧Old h h':=by
 have hll:=hv.len
 have dc:=dig_cells ho
 have b1:=box_at h (u8s o) dc.2.2
 have o1:Old h (h.alloc (u8s o)):=Kept.alloc _ _ _
 have g1:(h.alloc (u8s o)).get h.next=some (u8s o):=by rw [Heap.get_alloc,if_pos rfl]
 generalize h.alloc (u8s o)=h1 at *
 have l3:=ldN_all g1 dc.1 dc.2.1
 refine ⟨h1,CW_body is78 hG rfl ((t78_eq _ _ _ _).trans ?_),o1⟩
 unfold t78
 simp -implicitDefEqProofs only [b1,thenV_some]
 refine endL_fin (n:=27) (fin:=fun ex y g=>g=h1∧((ex = .exit 0∧R.find? (fun r=>decide (r.kind=2)&&decide (r.obj=o))=none)∨(ex = .ret∧buriedB R o=true∧y 4 = .bool true))) (Q:=fun q:Out=>q=some (.bool (buriedB R o),h1))
  (loop_fin (t78l78_1010_eq CW) (Inv:=fun k y g => ∃ i,i+k=R.length∧y 0=v∧y 3=ptr h.next 0∧y 5=i64n i∧g=h1∧(R.take i).find? (fun r=>decide (r.kind=2)&&decide (r.obj=o))=none) ?_ R.length (by have:rounds=18446744073709551616:=rfl;omega) ⟨0,by omega,rfl,rfl,rfl,rfl,by simp⟩) ?_
 ·rintro k y g ⟨i,hik,y0,y3,y5,rfl,hf⟩
  unfold t78l78_1010
  simp -implicitDefEqProofs only [y0,y5,hll,lss3,thenV_some,pu_some]
  by_cases hi:i<R.length
  ·obtain ⟨b,oo,ix,wr,ld⟩:=hv.parts hi
   obtain ⟨_,p0,p1,_⟩:=ld g o1
   obtain ⟨f1,f2⟩:=find_take hi hf
   have a5:bin Tryd.prog .add 3 (i64n i) (.int .i64 1)=some (i64n (i+1)):=add31 (by omega)
   by_cases hk:R[i].kind=2
   ·by_cases hh:R[i].obj=o
    ·simp -implicitDefEqProofs only [decide_eq_true hi,ix,addP_ptr,p0,eql56 R[i].kind 2 2 rfl,decide_eq_true hk,bt,guardK_true,p1,y3,l3,eqD35 wr.obj ho,decide_eq_true hh,if_true,thenV_some,pu_some]
     refine Rnd.ret ⟨rfl,.inr ⟨rfl,?_,rfl⟩⟩
     unfold buriedB
     rw [f2 (by simp [hk,hh])]
     rfl
    ·simp -implicitDefEqProofs only [decide_eq_true hi,ix,addP_ptr,p0,eql56 R[i].kind 2 2 rfl,decide_eq_true hk,bt,guardK_true,p1,y3,l3,eqD35 wr.obj ho,decide_eq_false hh,if_true,a5,thenV_some,pu_some]
     exact Rnd.next (k-1) (by omega) ⟨i+1,by omega,y0,y3,rfl,rfl,f1 (by simp [hh])⟩
   ·simp -implicitDefEqProofs only [decide_eq_true hi,ix,addP_ptr,p0,eql56 R[i].kind 2 2 rfl,decide_eq_false hk,bf',guardK_false,Bool.false_eq_true,if_false,a5,thenV_some,pu_some]
    exact Rnd.next (k-1) (by omega) ⟨i+1,by omega,y0,y3,rfl,rfl,f1 (by simp [hk])⟩
  ·have hE:i=R.length:=by omega
   rw [hE,List.take_length] at hf
   simp -implicitDefEqProofs only [decide_eq_false hi,thenV_some]
   exact Rnd.out 0 ⟨rfl,.inl ⟨rfl,hf⟩⟩
 ·rintro ex z g ⟨rfl,⟨rfl,q⟩|⟨rfl,q,z4⟩⟩
  ·simp -implicitDefEqProofs only [endL_exit,b78_3e,t78k78_1_eq]
   unfold t78k78_1
   have:buriedB R o=false:=by unfold buriedB;rw [q];rfl
   rw [this]
   rfl
  ·rw [endL_ret,res_one results78 (by decide),z4,q]
def lookQ (o:List Nat) (n:Int) (r:RecD):Bool:=(decide (r.kind=3)&&decide (r.obj=o))&&decide (r.holder=n)
theorem agg58:aggT Tryd.prog 58=some true:=by kernel_rfl
theorem siz58:sizeT Tryd.prog 58=some 39:=by kernel_rfl
theorem bld_zero:bldR zrC []=some (recV RecD.z):=rfl
set_option maxRecDepth 100000 in
theorem r74 {h:Heap} (hG:4≤h.n0) {v:Value} {R:List RecD} (hv:RSl h v R) (hR:R.length≤1000000) {o:List Nat} (ho:D32 o) (n:Int) : ∃ h',CW 74 [v,.agg (u8s o).toArray,.int .i64 n] h=some (.tuple #[recV ((R.find? (lookQ o n)).getD RecD.z),.bool (R.find? (lookQ o n)).isSome],h')∧Old h h':=by
 have hll:=hv.len
 have dc:=dig_cells ho
 have b1:=box_at h (u8s o) dc.2.2
 have o1:Old h (h.alloc (u8s o)):=Kept.alloc _ _ _
 have g1:(h.alloc (u8s o)).get h.next=some (u8s o):=by rw [Heap.get_alloc,if_pos rfl]
 have n1:(h.alloc (u8s o)).next=h.next+1:=rfl
 generalize h.alloc (u8s o)=h1 at *
 obtain ⟨h2,z2,o2,g2,n2⟩:=fresh zrC h1
 rw [n1] at z2 g2
 have O2:=o1.trans o2
 have l4:=ldN_all (Old.get o2 g1) dc.1 dc.2.1
 have hn0:=h.n0_le_next
 have key : ∃ q:Out,t74 CW v (.agg (u8s o).toArray) (.int .i64 n) h=q ∧ ∃ h',q=some (.tuple #[recV ((R.find? (lookQ o n)).getD RecD.z),.bool (R.find? (lookQ o n)).isSome],h')∧Old h h':=by
  refine ⟨_,rfl,?_⟩
  unfold t74
  simp -implicitDefEqProofs only [b1,z2,thenV_some]
  refine endL_fin (n:=44) (fin:=fun ex y g=>(ex = .exit 0∧g=h2∧y 6=ptr (h.next+1) 0∧R.find? (lookQ o n)=none)∨(ex = .ret∧y 6=ptr (h.next+1) 0∧y 7 = .bool true ∧ ∃ r,R.find? (lookQ o n)=some r∧r.Wf∧g.get (h.next+1)=some (recC r)∧Kept h2 g (· = h.next+1))) (Q:=fun q:Out => ∃ h',q=some (.tuple #[recV ((R.find? (lookQ o n)).getD RecD.z),.bool (R.find? (lookQ o n)).isSome],h')∧Old h h')
   (loop_fin (t74l74_1010_eq CW) (Inv:=fun k y g => ∃ i,i+k=R.length∧y 0=v∧y 2 = .int .i64 n∧y 4=ptr h.next 0∧y 6=ptr (h.next+1) 0∧y 8=i64n i∧g=h2∧(R.take i).find? (lookQ o n)=none) ?_ R.length (by have:rounds=18446744073709551616:=rfl;omega) ⟨0,by omega,rfl,rfl,rfl,rfl,rfl,rfl,by simp⟩) ?_
  ·rintro k y g ⟨i,hik,y0,y2,y4,y6,y8,rfl,hf⟩
   unfold t74l74_1010
   simp -implicitDefEqProofs only [y0,y8,hll,lss3,thenV_some,pu_some]
   by_cases hi:i<R.length
   ·obtain ⟨b,oo,ix,wr,ld⟩:=hv.parts hi
    obtain ⟨pa,p0,p1,p33,_⟩:=ld g O2
    obtain ⟨f1,f2⟩:=find_take hi hf
    have a8:bin Tryd.prog .add 3 (i64n i) (.int .i64 1)=some (i64n (i+1)):=add31 (by omega)
    by_cases hk:R[i].kind=3
    ·by_cases hh:R[i].obj=o
     ·by_cases hn:R[i].holder=n
      ·obtain ⟨h3,e3,k3,g3,_,_⟩:=stored_all (n:=39) (k':=recC R[i]) g2 (by rw [O2.n0];omega) rfl (rec_cells wr).1 (rec_typed wr).all.2.1
       simp -implicitDefEqProofs only [decide_eq_true hi,ix,addP_ptr,p0,eq56,decide_eq_true hk,bt,guardK_true,p1,y4,l4,eqD35 wr.obj ho,decide_eq_true hh,if_true,p33,y2,eqI,decide_eq_true hn,pa,y6,e3,thenV_some,pu_some]
       exact Rnd.ret (.inr ⟨rfl,y6,rfl,_,f2 (by unfold lookQ;simp [hk,hh,hn]),wr,g3,k3⟩)
      ·simp -implicitDefEqProofs only [decide_eq_true hi,ix,addP_ptr,p0,eq56,decide_eq_true hk,bt,guardK_true,p1,y4,l4,eqD35 wr.obj ho,decide_eq_true hh,if_true,p33,y2,eqI,decide_eq_false hn,a8,thenV_some,pu_some]
       exact Rnd.next (k-1) (by omega) ⟨i+1,by omega,y0,y2,y4,y6,rfl,rfl,f1 (by unfold lookQ;simp [hn])⟩
     ·simp -implicitDefEqProofs only [decide_eq_true hi,ix,addP_ptr,p0,eq56,decide_eq_true hk,bt,bf',guardK_true,guardK_false,p1,y4,l4,eqD35 wr.obj ho,decide_eq_false hh,if_true,Bool.false_eq_true,if_false,a8,thenV_some,pu_some]
      exact Rnd.next (k-1) (by omega) ⟨i+1,by omega,y0,y2,y4,y6,rfl,rfl,f1 (by unfold lookQ;simp [hh])⟩
    ·simp -implicitDefEqProofs only [decide_eq_true hi,ix,addP_ptr,p0,eq56,decide_eq_false hk,bf',guardK_false,Bool.false_eq_true,if_false,a8,thenV_some,pu_some]
     exact Rnd.next (k-1) (by omega) ⟨i+1,by omega,y0,y2,y4,y6,rfl,rfl,f1 (by unfold lookQ;simp [hk])⟩
   ·have hE:i=R.length:=by omega
    rw [hE,List.take_length] at hf
    simp -implicitDefEqProofs only [decide_eq_false hi,thenV_some]
    exact Rnd.out 0 (.inl ⟨rfl,rfl,y6,hf⟩)
  ·rintro ex z g (⟨rfl,rfl,z6,q⟩|⟨rfl,z6,z7,r,q,wr,gr,kr⟩)
   ·obtain ⟨h3,e3,k3,g3,_,_⟩:=stored_all (n:=39) (k':=recC RecD.z) g2 (by rw [O2.n0];omega) rfl (rec_cells RecD.z_wf).1 (rec_typed RecD.z_wf).all.2.1
    simp -implicitDefEqProofs only [endL_exit,b74_3e,t74k74_1_eq]
    unfold t74k74_1
    have bz:bldR zrC []=some (recV RecD.z):=bld_zero
    simp -implicitDefEqProofs only [bz,z6,e3,thenV_some,pu_some]
    refine ⟨h3,?_,Old.of_new O2 k3 (by omega)⟩
    rw [q]
    exact res_cell_tmp results74 agg58 siz58 (by decide) (by decide) _ (show ldN 39 (up z [(7,.bool false),(43,recV RecD.z)] 6) h3=_ by
     show ldN 39 (z 6) h3=_
     rw [z6]
     exact ldN_all g3 (rec_cells RecD.z_wf).1 (rec_cells RecD.z_wf).2.1)
   ·rw [endL_ret]
    refine ⟨g,?_,Old.of_new O2 kr (by omega)⟩
    rw [q]
    have:=res_cell_tmp results74 agg58 siz58 (n:=44) (by decide) (by decide) z (show ldN 39 (z 6) g=some (recV r,g) by
     rw [z6]
     exact ldN_all gr (rec_cells wr).1 (rec_cells wr).2.1)
    rw [this,z7]
    rfl
 obtain ⟨q,e,h',e',oo⟩:=key
 exact ⟨h',CW_body is74 hG rfl ((t74_eq _ _ _ _ _).trans (e.trans e')),oo⟩
def heldQ (o:List Nat) (r:RecD):Bool:=(decide (r.kind=3)&&r.held)&&decide (r.obj=o)
set_option maxRecDepth 100000 in
theorem r76 {h:Heap} (hG:4≤h.n0) {v:Value} {R:List RecD} (hv:RSl h v R) (hR:R.length≤1000000) {o:List Nat} (ho:D32 o) : ∃ h',CW 76 [v,.agg (u8s o).toArray] h=some (.tuple #[.int .i64 ((R.find? (heldQ o)).getD RecD.z).k,.int .i64 ((R.find? (heldQ o)).getD RecD.z).n],h')∧Old h h':=by
 have hll:=hv.len
 have dc:=dig_cells ho
 have b1:=box_at h (u8s o) dc.2.2
 have o1:Old h (h.alloc (u8s o)):=Kept.alloc _ _ _
 have g1:(h.alloc (u8s o)).get h.next=some (u8s o):=by rw [Heap.get_alloc,if_pos rfl]
 generalize h.alloc (u8s o)=h1 at *
 have l3:=ldN_all g1 dc.1 dc.2.1
 refine ⟨h1,CW_body is76 hG rfl ((t76_eq _ _ _ _).trans ?_),o1⟩
 unfold t76
 simp -implicitDefEqProofs only [b1,thenV_some]
 refine endL_fin (n:=45) (fin:=fun ex y g=>g=h1∧((ex = .exit 0∧R.find? (heldQ o)=none)∨(ex = .ret ∧ ∃ r,R.find? (heldQ o)=some r∧y 4 = .int .i64 r.k∧y 5 = .int .i64 r.n))) (Q:=fun q:Out=>q=some (.tuple #[.int .i64 ((R.find? (heldQ o)).getD RecD.z).k,.int .i64 ((R.find? (heldQ o)).getD RecD.z).n],h1))
  (loop_fin (t76l76_1010_eq CW) (Inv:=fun k y g => ∃ i,i+k=R.length∧y 0=v∧y 3=ptr h.next 0∧y 6=i64n i∧g=h1∧(R.take i).find? (heldQ o)=none) ?_ R.length (by have:rounds=18446744073709551616:=rfl;omega) ⟨0,by omega,rfl,rfl,rfl,rfl,by simp⟩) ?_
 ·rintro k y g ⟨i,hik,y0,y3,y6,rfl,hf⟩
  unfold t76l76_1010
  simp -implicitDefEqProofs only [y0,y6,hll,lss3,thenV_some,pu_some]
  by_cases hi:i<R.length
  ·obtain ⟨b,oo,ix,wr,ld⟩:=hv.parts hi
   obtain ⟨_,p0,p1,_,_,p36,p37,p38⟩:=ld g o1
   obtain ⟨f1,f2⟩:=find_take hi hf
   have a6:bin Tryd.prog .add 3 (i64n i) (.int .i64 1)=some (i64n (i+1)):=add31 (by omega)
   by_cases hk:R[i].kind=3
   ·cases hh:R[i].held with
    |true=>
     rw [hh] at p36
     by_cases ho':R[i].obj=o
     ·simp -implicitDefEqProofs only [decide_eq_true hi,ix,addP_ptr,p0,eq56,decide_eq_true hk,bt,guardK_true,p36,if_true,p1,y3,l3,eqD35 wr.obj ho,decide_eq_true ho',p37,p38,thenV_some,pu_some]
      exact Rnd.ret ⟨rfl,.inr ⟨rfl,_,f2 (by unfold heldQ;simp [hk,hh,ho']),rfl,rfl⟩⟩
     ·simp -implicitDefEqProofs only [decide_eq_true hi,ix,addP_ptr,p0,eq56,decide_eq_true hk,bt,guardK_true,p36,if_true,p1,y3,l3,eqD35 wr.obj ho,decide_eq_false ho',a6,thenV_some,pu_some]
      exact Rnd.next (k-1) (by omega) ⟨i+1,by omega,y0,y3,rfl,rfl,f1 (by unfold heldQ;simp [ho'])⟩
    |false=>
     rw [hh] at p36
     simp -implicitDefEqProofs only [decide_eq_true hi,ix,addP_ptr,p0,eq56,decide_eq_true hk,bt,bf',guardK_true,guardK_false,p36,if_true,Bool.false_eq_true,if_false,a6,thenV_some,pu_some]
     exact Rnd.next (k-1) (by omega) ⟨i+1,by omega,y0,y3,rfl,rfl,f1 (by unfold heldQ;simp [hh])⟩
   ·simp -implicitDefEqProofs only [decide_eq_true hi,ix,addP_ptr,p0,eq56,decide_eq_false hk,bf',guardK_false,Bool.false_eq_true,if_false,a6,thenV_some,pu_some]
    exact Rnd.next (k-1) (by omega) ⟨i+1,by omega,y0,y3,rfl,rfl,f1 (by unfold heldQ;simp [hk])⟩
  ·have hE:i=R.length:=by omega
   rw [hE,List.take_length] at hf
   simp -implicitDefEqProofs only [decide_eq_false hi,thenV_some]
   exact Rnd.out 0 ⟨rfl,.inl ⟨rfl,hf⟩⟩
 ·rintro ex z g ⟨rfl,⟨rfl,q⟩|⟨rfl,r,q,z4,z5⟩⟩
  ·simp -implicitDefEqProofs only [endL_exit,b76_3e,t76k76_1_eq]
   unfold t76k76_1
   rw [q]
   rfl
  ·rw [endL_ret,q]
   rw [res_two results76 (by decide) (by decide),z4,z5]
   rfl
end Go.Proofs.YtdnahgfgoajmcaaDoor

namespace Go.Proofs.YtdnahgfgoajmcaaDoor
open Go Go.Abs
attribute [local congr] thenV_congr
theorem filt_take {R:List RecD} {kd i:Nat} (hi:i<R.length):(R.take (i+1)).filter (fun r=>decide (r.kind=kd))=(R.take i).filter (fun r=>decide (r.kind=kd))++if R[i].kind=kd then [R[i]] else []:=by
 rw [List.take_succ_eq_append_getElem hi,List.filter_append,List.filter_cons]
 by_cases h:R[i].kind=kd
 ·simp [h]
 ·simp [h]
set_option maxRecDepth 100000 in
theorem each_all {c:Code} {n te pv tv:Nat} (hte:te<n) (hpt:pv≠tv) (hc0:c = .rangeFunc (.tmp te) #[pv] (rgA c) (rgB c)) (oa:codeOk Tryd.prog (rgA c)=true) (ob:codeOk Tryd.prog (rgB c)=true)
  (hA : ∀ x g,codeA Tryd.prog CW (rgA c) (mkF n x) g=thenV (newC zrC g) fun y5 g=>thenV (stN 39 y5 (x pv) g) fun _ g=>some (.normal,mkF n (up x [(tv,y5)]),g))
  {h0 h:Heap} (hG:4≤h0.n0) (O:Old h0 h) {vb c1 c2 kd cb:Nat} {va:Value} {R:List RecD} (hR:R.length≤1000000) (gv:h0.get vb=some [va]) (hva:isHole va=false) (RS:RSl h0 va R)
  (hcb:h0.next≤cb) (hcbn:cb<h.next) (g1:h.get c1=some [ptr vb 0]) (g2:h.get c2=some [.int .u8 (kd:Int)]) (n1:c1≠cb) (n2:c2≠cb)
  {x:Nat→Value} (x7:x te = .func (.func 120) #[] #[ptr c1 0,ptr c2 0])
  {σ:Type} (f:σ→RecD→σ) (s0:σ) (Acc:Heap→σ→Prop) (ha0:Acc h s0) (hkeep : ∀ g g' s,Kept g g' (· = h.next)→Acc g s→Acc g' s)
  (hB : ∀ (y:Nat→Value) (g:Heap) (r:RecD) (q:Nat) (s:σ),(∃ j,j<R.length∧s=((R.take j).filter fun r=>decide (r.kind=kd)).foldl f s0)→r.Wf→4≤g.n0→g.n0≤h0.next→h.next+1≤g.next→Kept h g (fun b=>b=cb∨h.next≤b)→g.get h.next=none→y tv=ptr q 0→(∀ t,t≠pv→t≠tv→y t=x t)→g.get q=some (recC r)→h.next<q→Acc g s →
   ∃ z g',codeA Tryd.prog CW (rgB c) (mkF n y) g=some (.normal,z,g')∧Kept g g' (fun b=>b=cb∨h.next<b)∧Acc g' (f s r)) :
  ∃ h',codeA Tryd.prog CW c (mkF n x) h=some (.normal,mkF n x,h')∧Kept h h' (· = cb)∧Acc h' ((R.filter fun r=>decide (r.kind=kd)).foldl f s0):=by
 generalize hca:rgA c=ca at *
 generalize hcb':rgB c=cbd at *
 have hGh:4≤h.n0:=by rw [O.n0];exact hG
 have Lp0:=LpR.new h (mkF n x) [pv] ca cbd
 have k0:Old h (h.allocB (.obj (.loop .ready none (mkF n x) [pv] ca cbd))):=Kept.allocO _ _ _
 have h1n:=h.lt_of_get g1
 have h2n:=h.lt_of_get g2
 have hvn:=h0.lt_of_get gv
 have hOn:=O.next
 generalize hh1:h.allocB (.obj (.loop .ready none (mkF n x) [pv] ca cbd))=h1 at *
 have hn1:h1.next=h.next+1:=by rw [←hh1];rfl
 obtain ⟨h2,e2,hres⟩:=r120 (h:=h1) (by rw [k0.n0];exact hGh) (L:=h.next) (c1:=c1) (c2:=c2) (vb:=vb) (kd:=kd) (va:=va) (R:=R) hR
  (fun j g=>Kept h g (fun b=>b=cb∨h.next≤b)∧LpR g h.next (mkF n x) [pv] ca cbd∧h1.next≤g.next∧Acc g (((R.take j).filter fun r=>decide (r.kind=kd)).foldl f s0))
  (fun _=>False)
  (fun j g ⟨K,_,_,_⟩=>by
   have Og:Old h0 g:=O.also K (fun d hd q=>by rcases q with q|q<;>omega)
   refine ⟨ld1_at (K.getE g1 (fun q=>by rcases q with q|q;exact n1 q;omega)) rfl rfl,ld1_at (K.getE g2 (fun q=>by rcases q with q|q;exact n2 q;omega)) rfl rfl,ld1_at (Old.get Og gv) rfl hva,RS.mono Og⟩)
  (fun j g g' ⟨K,R1,hn,ac⟩ o=>⟨K.trans (o.mono (fun _ _ h=>h.elim)),R1.keep o (fun h=>h),Nat.le_trans hn o.next,hkeep g g' _ (o.mono (fun _ _ h=>h.elim)) ac⟩)
  (fun j g hj hk ⟨K,R1,hn,ac⟩=>⟨K,R1,hn,by rw [filt_take hj,if_neg hk,List.append_nil];exact ac⟩)
  (fun j g hj hk ⟨K,R1,hn,ac⟩=>by
   have G:4≤g.n0:=by rw [K.n0];exact hGh
   have wr:R[j].Wf:=RS.2.1 _ (List.getElem_mem hj)
   have ft:=filt_take (kd:=kd) hj
   rw [if_pos hk] at ft
   generalize R[j]=r at *
   obtain ⟨g3,g4,z3,e4,o4,g4'⟩:=rec_var g wr
   have ha:codeA Tryd.prog CW ca (putAll (mkF n x) ([pv].zip [recV r])) g=some (.normal,mkF n (up (up x [(pv,recV r)]) [(tv,ptr g.next 0)]),g4):=by
    show codeA Tryd.prog CW ca ((mkF n x).set pv (recV r)) g=_
    rw [mkF_set,hA]
    have y8:up x [(pv,recV r)] pv=recV r:=up_same _ _ _ _
    simp -implicitDefEqProofs only [y8,z3,e4,thenV_some,pu_some]
   have R4:LpR g4 h.next (mkF n x) [pv] ca cbd:=R1.keep o4 (fun h=>h)
   have R4':=R4
   unfold LpR at R4'
   have kS:Kept g4 (g4.setO h.next (.loop .busy none (mkF n x) [pv] ca cbd)) (· = h.next):=Go.Abs.Kept.setO R4' rfl
   have gS : ∀ b,(g4.setO h.next (.loop .busy none (mkF n x) [pv] ca cbd)).get b=g4.get b:=fun b=>Heap.get_setO R4' _ b
   have gL:g4.get h.next=none:=by
    unfold Heap.get
    rw [R4']
    rfl
   generalize hg5:g4.setO h.next (.loop .busy none (mkF n x) [pv] ca cbd)=g5 at *
   have G5:4≤g5.n0:=by rw [kS.n0,o4.n0];exact G
   have q5:g5.get g.next=some (recC r):=(gS _).trans g4'
   have ho4:=o4.next
   have hk5:=kS.next
   have K5:Kept h g5 (fun b=>b=cb∨h.next≤b):=(K.trans (o4.mono (fun _ _ h=>h.elim))).also kS (fun d hd q => .inr (by omega))
   have ac5:Acc g5 (((R.take j).filter fun r=>decide (r.kind=kd)).foldl f s0):=hkeep g4 g5 _ kS (hkeep g g4 _ (o4.mono (fun _ _ h=>h.elim)) ac)
   obtain ⟨z,g6,eb,k6,ac6⟩:=hB (up (up x [(pv,recV r)]) [(tv,ptr g.next 0)]) g5 r g.next _ ⟨j,hj,rfl⟩ wr G5 (by rw [kS.n0,o4.n0,K.n0,O.n0];exact h0.n0_le_next) (by omega) K5 ((gS _).trans gL) (up_same _ _ _ _) (fun t t1 t2=>by
    simp only [up_cons,up_nil]
    rw [if_neg (fun e=>t2 e.symm),if_neg (fun e=>t1 e.symm)]) q5 (by omega) ac5
   obtain ⟨g8,e8,R8,n8,m8,s8,b8⟩:=LpR.round (B:=fun b=>b=cb∨h.next<b) R1 rfl oa ob ha (o4.mono (fun _ _ h=>h.elim)) (by omega) (by rw [hg5];exact eb) (by rw [hg5];exact k6)
   have ho6:=k6.next
   have kf:Kept g6 g8 (· = h.next):=⟨by rw [m8,k6.n0,kS.n0,o4.n0],by omega,fun b hb hq=>b8 b hq⟩
   have K8:Kept g g8 (fun b=>b=cb∨h.next≤b):=by
    refine ⟨m8,by omega,fun b hb hq => ?_⟩
    have q1 : ¬b=cb:=fun q=>hq (.inl q)
    have q2 : ¬h.next≤b:=fun q=>hq (.inr q)
    rw [b8 b (by omega),k6.getB b (by omega) (fun q=>by rcases q with q|q;exact q1 q;omega),kS.getB b (by omega) (by omega)]
    exact Kept.getB o4 b hb (fun h=>h)
   refine ⟨true,g8,CW_yield G e8,fun _=>⟨K.trans K8,R8,by omega,?_⟩,fun h=>by cases h⟩
   rw [ft,List.foldl_append]
   exact hkeep g6 g8 _ kf ac6)
  ⟨k0.mono (fun _ _ h=>h.elim),Lp0,Nat.le_refl _,hkeep h h1 _ (k0.mono (fun _ _ h=>h.elim)) ha0⟩
 have hv:ev (mkF n x) (.tmp te) = .func (.func 120) #[] #[ptr c1 0,ptr c2 0]:=(ev_mkF hte x).trans x7
 have run:codeA Tryd.prog CW c (mkF n x) h=endLoopA h.next (mkF n x) h2:=by
  refine code_range (v := .tuple #[]) (h2:=h2) (ps := #[pv]) (by rw [hca,hcb'];exact hc0) hv body120 ?_
  rw [hca,hcb']
  show CW 120 [.func (.yield h.next) #[] #[],ptr c1 0,ptr c2 0] (h.allocB (.obj (.loop .ready none (mkF n x) [pv] ca cbd)))=_
  rw [hh1]
  exact e2
 rcases hres with ⟨K,R2,hn,ac⟩|hf
 ·obtain ⟨h3,e3,k3,_⟩:=R2.fin (e0:=mkF n x)
  rw [List.take_length] at ac
  refine ⟨h3,run.trans e3,⟨k3.n0.trans K.n0,Nat.le_trans K.next k3.next,fun b hb hq => ?_⟩,hkeep h2 h3 _ k3 ac⟩
  rw [k3.getB b (by have:=K.next;omega) (by omega),K.getB b hb (fun q=>by rcases q with q|q;exact hq q;omega)]
 ·exact hf.elim
end Go.Proofs.YtdnahgfgoajmcaaDoor

namespace Go.Proofs.YtdnahgfgoajmcaaDoor
open Go Go.Abs
attribute [local congr] thenV_congr
theorem is104:IsFn Tryd.prog 104 Tryd.f104:=⟨by kernel_rfl,by kernel_rfl,by kernel_rfl,by kernel_rfl⟩
theorem is75:IsFn Tryd.prog 75 Tryd.f75:=⟨by kernel_rfl,by kernel_rfl,by kernel_rfl,by kernel_rfl⟩
theorem is51:IsFn Tryd.prog 51 Tryd.f51:=⟨by kernel_rfl,by kernel_rfl,by kernel_rfl,by kernel_rfl⟩
theorem is35:IsFn Tryd.prog 35 Tryd.f35:=⟨by kernel_rfl,by kernel_rfl,by kernel_rfl,by kernel_rfl⟩
theorem rng104:partOf Tryd.f104 [1,1,0,1,0] = .rangeFunc (.tmp 8) #[9] (rgA (partOf Tryd.f104 [1,1,0,1,0])) (rgB (partOf Tryd.f104 [1,1,0,1,0])):=by kernel_rfl
theorem rng104a:codeOk Tryd.prog (rgA (partOf Tryd.f104 [1,1,0,1,0]))=true:=by kernel_rfl
theorem rng104b:codeOk Tryd.prog (rgB (partOf Tryd.f104 [1,1,0,1,0]))=true:=by kernel_rfl
def AccL (z cb N:Nat) (g:Heap) (n:Nat) (cs:List Value):Prop := ∃ w,g.get cb=some [w]∧GLst z g N w n cs
theorem GLst.keep {z:Nat} {h h':Heap} {N:Nat} {v:Value} {n:Nat} {cs:List Value} (x:GLst z h N v n cs) {B:Nat→Prop} (k:Kept h h' B) (hB : ∀ b,gsB v=some b → ¬B b):GLst z h' N v n cs:=by
 refine ⟨x.len,x.hol,x.one,?_⟩
 rcases x.form with f|⟨b,s,rfl,g,f⟩
 ·exact .inl f
 ·exact .inr ⟨b,s,rfl,k.getE g (hB b rfl),f⟩
theorem AccL.keep {z cb L:Nat} {g g':Heap} {n:Nat} {cs:List Value} (x:AccL z cb (L+1) g n cs) (k:Kept g g' (· = L)) (hc:cb≠L):AccL z cb (L+1) g' n cs:=by
 obtain ⟨w,h1,h2⟩:=x
 refine ⟨w,k.getE h1 hc,h2.keep k (fun b e q => ?_)⟩
 have:=(h2.blk e).1
 omega
theorem cellW {w:Value} (hw:w = .slice none 0 0 ∨ ∃ b s n,w = .slice (some ⟨b,0,s⟩) n n):w.cells = #[w]∧w.oneCell'=true∧isHole w=false:=by
 rcases hw with rfl|⟨b,s,n,rfl⟩<;>exact ⟨rfl,rfl,rfl⟩
theorem GLst.wform {z:Nat} {h:Heap} {N:Nat} {v:Value} {n:Nat} {cs:List Value} (x:GLst z h N v n cs):v = .slice none 0 0 ∨ ∃ b s n,v = .slice (some ⟨b,0,s⟩) n n:=by
 rcases x.form with ⟨_,f⟩|⟨b,s,f,_⟩
 ·exact .inl f
 ·exact .inr ⟨b,s,n,f⟩
theorem AccL.push {z by_ cb N c:Nat} {g:Heap} {n:Nat} {cs e:List Value} {w:Value} (g1:g.get cb=some [w]) (x:GLst z g N w n cs) (hz:0<z) (hb:by_≤1000) (h0:g.n0≤cb) (hcN:cb<N) (hN:N≤g.next) (hl:n≤1000000) (he:e.length=z) (ho:Abs.noHoles e=true) (h1:oneCells e=true) (hc:g.get c=some e) :
  ∃ w' g2 g3,appendA z by_ w (.slice (some ⟨c,0,none⟩) 1 1) g=some (w',g2)∧stN 1 (ptr cb 0) w' g2=some (undef,g3)∧AccL z cb N g3 (n+1) (cs++e)∧Kept g g3 (fun b=>b=cb∨N≤b):=by
 obtain ⟨w',g2,e1,x2,k2⟩:=x.push hz hb (by omega) hN hl he ho h1 hc
 have hcb:g2.get cb=some [w]:=k2.getE g1 (fun q=>by have:=(x.blk q).1;omega)
 have h2:g2.n0≤cb:=by rw [k2.n0];exact h0
 have cw:=cellW x2.wform
 have k3:Kept g2 (g2.set cb [w']) (· = cb):=Kept.set h2 hcb (.inr rfl)
 refine ⟨w',g2,g2.set cb [w'],e1,stN1_at hcb Nat.zero_lt_one h2 cw.1 cw.2.1,⟨w',?_,x2.keep k3 (fun b q r => ?_)⟩,?_⟩
 ·unfold Heap.set
  rw [g2.get_put h2 (g2.lt_of_get hcb),if_pos rfl]
  rfl
 ·have:=(x2.blk q).1
  omega
 ·exact (k2.mono (fun b _ q => .inr (x.blk q).1)).trans (k3.mono (fun b _ q => .inl q))
theorem recsC_snoc (L:List RecD) (r:RecD):recsC (L ++ [r])=recsC L++recC r:=by rw [recsC_app,recsC_one]
theorem GLst.rcs {h:Heap} {N:Nat} {v:Value} {L:List RecD} (x:GLst 39 h N v L.length (recsC L)) (hw : ∀ r∈L,RecD.Wf r):RcS h v L:=by
 rcases x.form with ⟨h0,rfl⟩|⟨b,s,rfl,g,_⟩
 ·have:L = []:=List.length_eq_zero_iff.1 h0
  subst this
  exact ⟨(fun _ h=>by cases h),none,0,rfl,(fun _=>rfl),recsC_typed (P := []) (fun _ h=>by cases h),fun h=>absurd h (Nat.lt_irrefl 0)⟩
 ·exact RcS.of_blk hw rfl g
def heldF (o:List Nat) (l:List RecD) (r:RecD):List RecD:=if (r.held&&decide (r.obj=o))=true then l ++ [r] else l
theorem heldF_all (o:List Nat) : ∀ (R l:List RecD),(R.filter fun r=>decide (r.kind=3)).foldl (heldF o) l=l++R.filter (heldQ o)
 | [],l=>by simp
 |r::R,l=>by
  have ih:=heldF_all o R
  rw [List.filter_cons,List.filter_cons]
  by_cases h:r.kind=3
  ·rw [if_pos (by simpa using h),List.foldl_cons,ih]
   unfold heldF heldQ
   by_cases h2:(r.held&&decide (r.obj=o))=true
   ·rw [if_pos h2]
    simp only [Bool.and_eq_true,decide_eq_true_eq] at h2
    simp [h,h2.1,h2.2]
   ·rw [if_neg h2]
    simp only [Bool.and_eq_true,decide_eq_true_eq,not_and] at h2
    by_cases h3:r.held=true
    ·simp [h,h3,h2 h3]
    ·simp [h3]
  ·rw [if_neg (by simpa using h),ih]
   unfold heldQ
   simp [h]
set_option maxRecDepth 100000 in
theorem r104 {h:Heap} (hG:4≤h.n0) {vb:Nat} {va:Value} {R:List RecD} (gv:h.get vb=some [va]) (RS:RSl h va R) (hn:nilOk va) (hR:R.length≤100000) {o:List Nat} (ho:D32 o) :
  ∃ w h',CW 104 [ptr vb 0,.agg (u8s o).toArray] h=some (w,h')∧Old h h'∧RSl h' w (R.filter (heldQ o)):=by
 have dc:=dig_cells ho
 have b1:=box_at h (u8s o) dc.2.2
 have o1:Old h (h.alloc (u8s o)):=Kept.alloc _ _ _
 have g1:(h.alloc (u8s o)).get h.next=some (u8s o):=by rw [Heap.get_alloc,if_pos rfl]
 have n1:(h.alloc (u8s o)).next=h.next+1:=rfl
 generalize h.alloc (u8s o)=h1 at *
 obtain ⟨h2,z2,o2,g2,n2⟩:=fresh [.slice none 0 0] h1
 rw [n1] at z2 g2 n2
 have e3:=r68 (h:=h2) (by rw [o2.n0,o1.n0];exact hG) vb 3
 rw [n2] at e3
 have e3:CW 68 [ptr vb 0,.int .u8 3] h2=_:=e3
 have o3:Old h2 ((h2.alloc [ptr vb 0]).alloc [.int .u8 ((3:Nat):Int)]):=(Kept.alloc _ _ _:Old h2 (h2.alloc [ptr vb 0])).trans (Kept.alloc _ _ _)
 have q1:((h2.alloc [ptr vb 0]).alloc [.int .u8 ((3:Nat):Int)]).get (h.next+1+1)=some [ptr vb 0]:=by
  rw [Heap.get_alloc,Heap.next_alloc,if_neg (by omega),Heap.get_alloc,if_pos (by omega)]
 have q2:((h2.alloc [ptr vb 0]).alloc [.int .u8 ((3:Nat):Int)]).get (h.next+1+1+1)=some [.int .u8 ((3:Nat):Int)]:=by
  rw [Heap.get_alloc,Heap.next_alloc,if_pos (by omega)]
 generalize hh3:(h2.alloc [ptr vb 0]).alloc [.int .u8 ((3:Nat):Int)]=h3 at *
 have n3:h3.next=h.next+1+1+1+1:=by rw [←hh3];show h2.next+1+1=_;omega
 have ga:=Old.get o3 (Old.get o2 g1)
 have gr:=Old.get o3 g2
 have O:=(o1.trans o2).trans o3
 let X:Nat→Value:=up (bs [ptr vb 0,.agg (u8s o).toArray]) [(3,ptr h.next 0),(4,.slice none 0 0),(5,ptr (h.next+1) 0),(7,ptr vb 0),(8,.func (.func 120) #[] #[ptr (h.next+1+1) 0,ptr (h.next+1+1+1) 0])]
 obtain ⟨h4,e4,K4,ac⟩:=each_all (n:=23) (te:=8) (pv:=9) (tv:=6) (by decide) (by decide) rng104 rng104a rng104b
  (fun x g=>t104l104_11010a_eq CW x g)
  hG O (vb:=vb) (c1:=h.next+1+1) (c2:=h.next+1+1+1) (kd:=3) (cb:=h.next+1) (va:=va) (by omega) gv (hole_nil hn) RS (by omega) (by omega) q1 q2 (by omega) (by omega) (x:=X) rfl
  (heldF o) [] (fun g l=>(∀ r∈l,RecD.Wf r)∧AccL 39 (h.next+1) (h3.next+1) g l.length (recsC l))
  ⟨(fun _ h=>by cases h),⟨_,gr,GLst.nil 39 _ _⟩⟩
  (fun g g' l k ⟨a2,a3⟩=>⟨a2,a3.keep k (by omega)⟩)
  (fun y g r q l ⟨j,hj,hs⟩ wr hg hn0 hnx K _ y6 yy gq hq ⟨a2,a3⟩=>by
   have hlen:l.length≤100000:=by
    rw [heldF_all,List.nil_append] at hs
    rw [hs]
    have h1:=List.length_filter_le (heldQ o) (R.take j)
    rw [List.length_take] at h1
    omega
   have y3:y 3=ptr h.next 0:=yy 3 (by decide) (by decide)
   have y5:y 5=ptr (h.next+1) 0:=yy 5 (by decide) (by decide)
   have P:=r_ld wr gq
   have gO:g.get h.next=some (u8s o):=K.getE ga (fun q=>by rcases q with q|q<;>omega)
   have l3:=ldN_all gO dc.1 dc.2.1
   cases hh:r.held with
   |false=>
    refine ⟨_,g,(t104l104_11010b_eq CW y g).trans (by
     unfold t104l104_11010b
     simp -implicitDefEqProofs only [y6,addP_ptr,Nat.zero_add,P.l36,hh,bf',guardK_false,Bool.false_eq_true,if_false,thenV_some,pu_some]
     rfl),Kept.refl _ _,?_⟩
    have ef:heldF o l r=l:=by unfold heldF;rw [hh];rfl
    rw [ef]
    exact ⟨a2,a3⟩
   |true=>
    by_cases he:r.obj=o
    ·obtain ⟨w,w1,w2⟩:=a3
     have cw:=cellW w2.wform
     have lw:ld1 (ptr (h.next+1) 0) g=some (w,g):=ld1_at w1 rfl cw.2.2
     have oa:Old g (g.alloc (recC r)):=Kept.alloc _ _ _
     have c:=rec_cells wr
     obtain ⟨w',g2',g3',e1,e2,ac3,k3⟩:=AccL.push (c:=g.next) (by_:=88) (Old.get oa w1) (w2.old oa) (by decide) (by decide) (by rw [oa.n0];omega) (by omega) (by have:=oa.next;omega) (by omega) c.1 c.2.1 c.2.2 (by rw [Heap.get_alloc,if_pos rfl])
     refine ⟨_,g3',(t104l104_11010b_eq CW y g).trans (by
      unfold t104l104_11010b
      simp -implicitDefEqProofs only [y6,y3,y5,addP_ptr,Nat.zero_add,P.l36,hh,bt,guardK_true,P.l1,l3,eqD35 wr.obj ho,decide_eq_true he,if_true,lw,P.all,bsl_rec wr,e1,e2,thenV_some,pu_some]
      rfl),(oa.mono (fun _ _ h=>h.elim)).trans (k3.mono (fun b _ q=>by rcases q with q|q;exact .inl q;exact .inr (by omega))),?_⟩
     have ef:heldF o l r=l ++ [r]:=by unfold heldF;rw [hh,decide_eq_true he];rfl
     rw [ef,List.length_append,List.length_singleton,recsC_snoc]
     exact ⟨(fun q hq=>by
      rcases List.mem_append.1 hq with h|h
      ·exact a2 q h
      ·rw [List.mem_singleton.1 h];exact wr),ac3⟩
    ·refine ⟨_,g,(t104l104_11010b_eq CW y g).trans (by
      unfold t104l104_11010b
      simp -implicitDefEqProofs only [y6,y3,addP_ptr,Nat.zero_add,P.l36,hh,bt,guardK_true,P.l1,l3,eqD35 wr.obj ho,decide_eq_false he,if_true,thenV_some,pu_some]
      rfl),Kept.refl _ _,?_⟩
     have ef:heldF o l r=l:=by unfold heldF;rw [hh,decide_eq_false he];rfl
     rw [ef]
     exact ⟨a2,a3⟩)
 rw [heldF_all,List.nil_append] at ac
 obtain ⟨a2,w,w1,w2⟩:=ac
 refine ⟨w,h4,CW_body is104 hG rfl ((t104_eq _ _ _ _).trans ?_),O.also K4 (fun d hd q=>by omega),(w2.rcs a2).rsl⟩
 unfold t104
 simp -implicitDefEqProofs only [b1,z2,e3,thenV_some,pu_some]
 refine (congrArg (fun o=>endN o (k104_2 CW) (resultsA Tryd.prog Tryd.f104.results.toList) (b104_4 CW)) e4).trans ?_
 rw [endN_n,t104k104_2_eq]
 unfold t104k104_2
 have x5:X 5=ptr (h.next+1) 0:=rfl
 have lw:ld1 (ptr (h.next+1) 0) h4=some (w,h4):=ld1_at w1 rfl (cellW w2.wform).2.2
 simp -implicitDefEqProofs only [x5,lw,thenV_some]
theorem find_head {R:List RecD} (p:RecD→Bool):R.find? p=(R.filter p).head? := by rw [List.head?_filter]
set_option maxRecDepth 100000 in
theorem r75 {h:Heap} (hG:4≤h.n0) {vb:Nat} {va:Value} {R:List RecD} (gv:h.get vb=some [va]) (RS:RSl h va R) (hn:nilOk va) (hR:R.length≤100000) {o:List Nat} (ho:D32 o) :
  ∃ h',CW 75 [ptr vb 0,.agg (u8s o).toArray] h=some (.tuple #[.int .i64 ((R.find? (heldQ o)).getD RecD.z).k,.int .i64 ((R.find? (heldQ o)).getD RecD.z).n],h')∧Old h h':=by
 have dc:=dig_cells ho
 have b1:=box_at h (u8s o) dc.2.2
 have o1:Old h (h.alloc (u8s o)):=Kept.alloc _ _ _
 have g1:(h.alloc (u8s o)).get h.next=some (u8s o):=by rw [Heap.get_alloc,if_pos rfl]
 generalize h.alloc (u8s o)=h1 at *
 have l3:=ldN_all g1 dc.1 dc.2.1
 obtain ⟨w,h2,e2,o2,r2⟩:=r104 (h:=h1) (by rw [o1.n0];exact hG) (Old.get o1 gv) (RS.mono o1) hn hR ho
 have hl:=r2.len
 rw [find_head]
 refine ⟨h2,CW_body is75 hG rfl ((t75_eq _ _ _ _).trans ?_),o1.trans o2⟩
 unfold t75
 generalize R.filter (heldQ o)=T at *
 by_cases h0:0<T.length
 ·obtain ⟨b,oo,ix,wr,ld⟩:=r2.parts h0
  obtain ⟨_,_,_,_,_,_,p37,p38⟩:=ld h2 (Kept.refl _ _)
  have ix:idxS 39 w (.int .i64 0)=some (ptr b oo):=ix
  have eh:(T.head?).getD RecD.z=T[0]:=by
   rw [List.head?_eq_getElem?,List.getElem?_eq_getElem h0];rfl
  rw [eh]
  simp -implicitDefEqProofs only [b1,l3,e2,hl,gtrC T.length 0 0 rfl,decide_eq_true h0,ix,addP_ptr,p37,p38,thenV_some,pu_some]
 ·have hT:T = []:=List.length_eq_zero_iff.1 (by omega)
  simp -implicitDefEqProofs only [b1,l3,e2,hl,gtrC T.length 0 0 rfl,decide_eq_false h0,thenV_some,pu_some]
  rw [hT]
  rfl
theorem bsl_int (n:Int) (h:Heap):bslR 1 (.int .i64 0) 1 [(0,.int .i64 n)] h=some (.slice (some ⟨h.next,0,none⟩) 1 1,h.alloc [.int .i64 n]):=rfl
def intsC (l:List Int):List Value:=l.map fun n => .int .i64 n
theorem intsC_snoc (l:List Int) (n:Int):intsC (l ++ [n])=intsC l ++ [.int .i64 n]:=by unfold intsC;rw [List.map_append];rfl
theorem b51_4e (C:CallF) (e:Env) (h:Heap):b51_4 C 0 e h=k51_2 C e h:=rfl
set_option maxRecDepth 100000 in
theorem r51 {h:Heap} (hG:4≤h.n0) {vb:Nat} {va:Value} {R:List RecD} (gv:h.get vb=some [va]) (RS:RSl h va R) (hn:nilOk va) (hR:R.length≤100000) {o:List Nat} (ho:D32 o) :
  ∃ w h',CW 51 [ptr vb 0,.agg (u8s o).toArray] h=some (w,h')∧Old h h'∧GLst 1 h' h.next w (R.filter (heldQ o)).length (intsC ((R.filter (heldQ o)).map (·.holder))):=by
 have dc:=dig_cells ho
 have b1:=box_at h (u8s o) dc.2.2
 have o1:Old h (h.alloc (u8s o)):=Kept.alloc _ _ _
 have g1:(h.alloc (u8s o)).get h.next=some (u8s o):=by rw [Heap.get_alloc,if_pos rfl]
 generalize h.alloc (u8s o)=h1 at *
 have l3:=ldN_all g1 dc.1 dc.2.1
 obtain ⟨w,h2,e2,o2,r2⟩:=r104 (h:=h1) (by rw [o1.n0];exact hG) (Old.get o1 gv) (RS.mono o1) hn hR ho
 have hl:=r2.len
 have hTl:(R.filter (heldQ o)).length≤100000:=by
  have:=List.length_filter_le (heldQ o) R
  omega
 have O2:=o1.trans o2
 have key : ∃ q:Out,t51 CW (ptr vb 0) (.agg (u8s o).toArray) h=q ∧ ∃ w h',q=some (w,h')∧Old h h'∧GLst 1 h' h.next w (R.filter (heldQ o)).length (intsC ((R.filter (heldQ o)).map (·.holder))):=by
  refine ⟨_,rfl,?_⟩
  unfold t51
  generalize R.filter (heldQ o)=T at *
  simp -implicitDefEqProofs only [b1,l3,e2,hl,thenV_some,pu_some]
  refine endL_fin (n:=23) (fin:=fun ex y g=>ex = .exit 0∧Old h g∧GLst 1 g h.next (y 5) T.length (intsC (T.map (·.holder)))) (Q:=fun q:Out => ∃ w h',q=some (w,h')∧Old h h'∧GLst 1 h' h.next w T.length (intsC (T.map (·.holder))))
   (loop_fin (x:=up (bs [ptr vb 0,.agg (u8s o).toArray]) [(3,ptr h.next 0),(4,.slice none 0 0),(5,.slice none 0 0),(8,ptr vb 0),(9,.agg (u8s o).toArray),(10,w),(11,i64n T.length),(12,.int .i64 0)]) (t51l51_11010_eq CW) (Inv:=fun k y g => ∃ i,i+k=T.length∧y 10=w∧y 11=i64n T.length∧y 12=i64n i∧Old h g∧h2.next≤g.next∧Old h2 g∧GLst 1 g h2.next (y 5) i (intsC ((T.take i).map (·.holder)))) ?_ T.length (by have:rounds=18446744073709551616:=rfl;omega) ⟨0,by omega,rfl,rfl,rfl,O2,Nat.le_refl _,Kept.refl _ _,(by rw [List.take_zero];exact GLst.nil 1 _ _)⟩) ?_
  ·rintro k y g ⟨i,hik,y10,y11,y12,Og,hng,O2g,G⟩
   unfold t51l51_11010
   simp -implicitDefEqProofs only [y11,y12,lss3,thenV_some,pu_some]
   by_cases hi:i<T.length
   ·obtain ⟨b,oo,ix,wr,ld⟩:=r2.rd hi
    have L1:=ld g O2g
    obtain ⟨g3,g4,e3,e4,o4,g4'⟩:=rec_var g wr
    have P:=r_ld wr g4'
    have oa:Old g4 (g4.alloc [.int .i64 T[i].holder]):=Kept.alloc _ _ _
    have hn0:(g4.alloc [.int .i64 T[i].holder]).n0≤h2.next:=by rw [oa.n0,o4.n0,O2g.n0];exact h2.n0_le_next
    obtain ⟨w',g5,e5,G5,k5⟩:=((G.old o4).old oa).push (c:=g4.next) (by_:=8) (e := [.int .i64 T[i].holder]) (by decide) (by decide) hn0 (Nat.le_trans hng (o4.trans oa).next) (by omega) rfl rfl rfl (by rw [Heap.get_alloc,if_pos rfl])
    have a12:bin Tryd.prog .add 3 (i64n i) (.int .i64 1)=some (i64n (i+1)):=add31 (by omega)
    have hb : ∀ b',gsB (y 5)=some b'→h2.next≤b':=fun b' e=>(G.blk e).1
    have k2:Old h2 g5:=(O2g.trans (o4.trans oa)).also k5 (fun d hd q=>by
     have:=hb d q
     omega)
    simp -implicitDefEqProofs only [decide_eq_true hi,y10,ix,L1,e3,e4,addP_ptr,Nat.zero_add,P.l33,bsl_int,e5,y12,a12,thenV_some,pu_some]
    refine Rnd.next (k-1) (by omega) ⟨i+1,by omega,y10,y11,rfl,O2.trans k2,k2.next,k2,?_⟩
    rw [List.take_succ_eq_append_getElem hi,List.map_append,List.map_cons,List.map_nil,intsC_snoc]
    exact G5
   ·have hE:i=T.length:=by omega
    subst hE
    rw [List.take_length] at G
    simp -implicitDefEqProofs only [decide_eq_false hi,thenV_some]
    refine Rnd.out 0 ⟨rfl,Og,?_⟩
    refine ⟨G.len,G.hol,G.one,?_⟩
    rcases G.form with f|⟨b,s,f1,f2,f3,f4⟩
    ·exact .inl f
    ·exact .inr ⟨b,s,f1,f2,Nat.le_trans O2.next f3,f4⟩
  ·rintro ex z g ⟨rfl,Og,G⟩
   simp -implicitDefEqProofs only [endL_exit,b51_4e,t51k51_2_eq]
   unfold t51k51_2
   exact ⟨z 5,g,rfl,Og,G⟩
 obtain ⟨q,e,w',h',e',oo⟩:=key
 exact ⟨w',h',CW_body is51 hG rfl ((t51_eq _ _ _ _).trans (e.trans e')),oo⟩
end Go.Proofs.YtdnahgfgoajmcaaDoor

namespace Go.Proofs.YtdnahgfgoajmcaaDoor
open Go Go.Abs
attribute [local congr] thenV_congr
theorem rng35:partOf Tryd.f35 [1,1,0,1,0] = .rangeFunc (.tmp 6) #[7] (rgA (partOf Tryd.f35 [1,1,0,1,0])) (rgB (partOf Tryd.f35 [1,1,0,1,0])):=by kernel_rfl
theorem rng35a:codeOk Tryd.prog (rgA (partOf Tryd.f35 [1,1,0,1,0]))=true:=by kernel_rfl
theorem rng35b:codeOk Tryd.prog (rgB (partOf Tryd.f35 [1,1,0,1,0]))=true:=by kernel_rfl
def dgC (l:List (List Nat)):List Value:=l.flatMap u8s
theorem dgC_snoc (l:List (List Nat)) (d:List Nat):dgC (l ++ [d])=dgC l++u8s d:=by
 unfold dgC
 rw [List.flatMap_append,List.flatMap_cons,List.flatMap_nil,List.append_nil]
theorem dgC_len : ∀ {l:List (List Nat)},(∀ d∈l,D32 d)→(dgC l).length=l.length*32
 | [],_=>rfl
 |d::l,h=>by
  have ih:=dgC_len (l:=l) fun x hx=>h x (List.mem_cons_of_mem _ hx)
  have hd:=(dig_cells (h d List.mem_cons_self)).1
  unfold dgC at ih ⊢
  rw [List.flatMap_cons,List.length_append,ih,hd,List.length_cons]
  omega
theorem dgC_get : ∀ {l:List (List Nat)},(∀ d∈l,D32 d) → ∀ {j:Nat} (hj:j<l.length),((dgC l).drop (j*32)).take 32=u8s l[j]
 |d::l,h,0,_=>by
  have hd:=(dig_cells (h d List.mem_cons_self)).1
  unfold dgC
  rw [List.flatMap_cons,Nat.zero_mul,List.drop_zero,←hd,List.take_left]
  rfl
 |d::l,h,j+1,hj=>by
  have hd:=(dig_cells (h d List.mem_cons_self)).1
  have ih:=dgC_get (l:=l) (fun x hx=>h x (List.mem_cons_of_mem _ hx)) (j:=j) (by simpa using hj)
  unfold dgC at ih ⊢
  rw [List.flatMap_cons,show (j+1)*32=32+j*32 by omega,←List.drop_drop,List.drop_left' hd,ih]
  rfl
def objF (l:List (List Nat)) (r:RecD):List (List Nat):=if (r.held&&(decide (l = []) || !(decide (l.getLast? = some r.obj))))=true then l ++ [r.obj] else l
theorem objF_len (l:List (List Nat)) (r:RecD):(objF l r).length≤l.length+1:=by
 unfold objF
 split
 ·simp
 ·omega
theorem objF_fold_len : ∀ (R:List RecD) (l:List (List Nat)),(R.foldl objF l).length≤l.length+R.length
 | [],l=>Nat.le_refl _
 |r::R,l=>by
  have h1:=objF_fold_len R (objF l r)
  have h2:=objF_len l r
  rw [List.foldl_cons,List.length_cons]
  omega
def objsV (R:List RecD):List (List Nat):=(R.filter fun r=>decide (r.kind=3)).foldl objF []
theorem eqZ (n:Nat):bin Tryd.prog .eql 3 (i64n n) (.int .i64 0)=some (.bool (decide (n=0))):=by
 rw [bin_eql]
 congr 2
 by_cases e:n=0
 ·subst e;rfl
 ·rw [decide_eq_false e,beq_eq_false_iff_ne];omega
theorem nqD35 {a b:List Nat} (wa:D32 a) (wb:D32 b):bin Tryd.prog .neq 35 (.agg (u8s a).toArray) (.agg (u8s b).toArray)=some (.bool (!(decide (a=b)))):=by
 obtain ⟨r,hr,hrun⟩:=dig_run (d:=9998) (dig_typed wa) (dig_typed wb)
 have hr':r=decide (a=b):=by
  by_cases e:a=b
  ·rw [decide_eq_true e,hr.2 (by rw [e])]
  ·rw [decide_eq_false e]
   cases r with
   |false=>rfl
   |true=>exact absurd (u8s_inj (hr.1 rfl)) e
 rw [←hr']
 exact (bin_agg (by kernel_rfl) (ground_agg (dig_typed wa).all.2.2) (ground_agg (dig_typed wb).all.2.2) hrun).2
theorem bsl_d32 (g:Heap) {D:List Nat} (dD:D32 D):bslR 32 (.agg (List.replicate 32 (.int .u8 0)).toArray) 1 [(0,.agg (u8s D).toArray)] g=some (.slice (some ⟨g.next,0,none⟩) 1 1,g.alloc (u8s D)):=by
 have c:=dig_cells dD
 have e1:fillL (List.replicate 32 (.int .u8 0)) [(0*32,32,.agg (u8s D).toArray)]=some (u8s D):=by
  rw [fill_mid (z:=List.replicate 32 (.int .u8 0)) (A := []) (B:=List.replicate 32 (.int .u8 0)) (C := []) (o:=0*32) (n:=32) (by simp) rfl rfl c.1]
  simp [fillL]
 have e2:oneCells ([(0,Value.agg (u8s D).toArray)].flatMap fun x:Nat×Value=>x.2.cells.toList)=true:=by
  show oneCells ((u8s D).toArray.toList ++ [])=true
  rw [List.append_nil]
  exact c.2.2
 unfold bslR
 rw [e2]
 exact (congrArg (fun o:Option (List Value)=>match o with|some cs=>some (Value.slice (some ⟨g.next,0,none⟩) 1 1,g.alloc cs)|none=>none) e1:_)
theorem GLst.last {h:Heap} {N:Nat} {w:Value} {l:List (List Nat)} (x:GLst 32 h N w l.length (dgC l)) (hd : ∀ d∈l,D32 d) (hl:l ≠ []) : ∃ b d,l.getLast? = some d∧D32 d∧idxS 32 w (i64n (l.length-1))=some (ptr b ((l.length-1)*32))∧ldN 32 (ptr b ((l.length-1)*32)) h=some (.agg (u8s d).toArray,h):=by
 have hlen:0<l.length:=List.length_pos_iff.2 hl
 obtain ⟨b,ix,hg,_⟩:=x.at (j:=l.length-1) (by omega)
 have hdl:=hd l[l.length-1] (List.getElem_mem _)
 refine ⟨b,l[l.length-1],?_,hdl,ix,?_⟩
 ·rw [List.getLast?_eq_getElem?,List.getElem?_eq_getElem (by omega)]
 ·have e:=dgC_get hd (j:=l.length-1) (by omega)
  have hm:=dgC_len hd
  have:=ldN_at (o:=(l.length-1)*32) (n:=32) hg (by omega) (by rw [e];exact (dig_cells hdl).2.1)
  rw [e] at this
  exact this
set_option maxRecDepth 100000 in
theorem r35 {h:Heap} (hG:4≤h.n0) {vb:Nat} {va:Value} {R:List RecD} (gv:h.get vb=some [va]) (RS:RSl h va R) (hn:nilOk va) (hR:R.length≤100000) :
  ∃ w h',CW 35 [ptr vb 0] h=some (w,h')∧Old h h'∧GLst 32 h' h.next w (objsV R).length (dgC (objsV R)) ∧ ∀ d∈objsV R,D32 d:=by
 obtain ⟨h2,z2,o2,g2,n2⟩:=fresh [.slice none 0 0] h
 have e3:=r68 (h:=h2) (by rw [o2.n0];exact hG) vb 3
 rw [n2] at e3
 have e3:CW 68 [ptr vb 0,.int .u8 3] h2=_:=e3
 have o3:Old h2 ((h2.alloc [ptr vb 0]).alloc [.int .u8 ((3:Nat):Int)]):=(Kept.alloc _ _ _:Old h2 (h2.alloc [ptr vb 0])).trans (Kept.alloc _ _ _)
 have q1:((h2.alloc [ptr vb 0]).alloc [.int .u8 ((3:Nat):Int)]).get (h.next+1)=some [ptr vb 0]:=by
  rw [Heap.get_alloc,Heap.next_alloc,if_neg (by omega),Heap.get_alloc,if_pos (by omega)]
 have q2:((h2.alloc [ptr vb 0]).alloc [.int .u8 ((3:Nat):Int)]).get (h.next+1+1)=some [.int .u8 ((3:Nat):Int)]:=by
  rw [Heap.get_alloc,Heap.next_alloc,if_pos (by omega)]
 generalize hh3:(h2.alloc [ptr vb 0]).alloc [.int .u8 ((3:Nat):Int)]=h3 at *
 have n3:h3.next=h.next+1+1+1:=by rw [←hh3];show h2.next+1+1=_;omega
 have gr:=Old.get o3 g2
 have O:=o2.trans o3
 let X:Nat→Value:=up (bs [ptr vb 0]) [(2,.slice none 0 0),(3,ptr h.next 0),(5,ptr vb 0),(6,.func (.func 120) #[] #[ptr (h.next+1) 0,ptr (h.next+1+1) 0])]
 obtain ⟨h4,e4,K4,ac⟩:=each_all (n:=32) (te:=6) (pv:=7) (tv:=4) (by decide) (by decide) rng35 rng35a rng35b
  (fun x g=>t35l35_11010a_eq CW x g)
  hG O (vb:=vb) (c1:=h.next+1) (c2:=h.next+1+1) (kd:=3) (cb:=h.next) (va:=va) (by omega) gv (hole_nil hn) RS (Nat.le_refl _) (by omega) q1 q2 (by omega) (by omega) (x:=X) rfl
  objF [] (fun g l=>(∀ d∈l,D32 d)∧AccL 32 h.next (h3.next+1) g l.length (dgC l))
  ⟨(fun _ h=>by cases h),⟨_,gr,GLst.nil 32 _ _⟩⟩
  (fun g g' l k ⟨a2,a3⟩=>⟨a2,a3.keep k (by omega)⟩)
  (fun y g r q l ⟨j,hj,hs⟩ wr hg hn0 hnx K _ y4 yy gq hq ⟨a2,a3⟩=>by
   have hlen:l.length≤100000:=by
    have h1:=objF_fold_len ((R.take j).filter fun r=>decide (r.kind=3)) []
    rw [←hs,List.length_nil] at h1
    have h2:=List.length_filter_le (fun r:RecD=>decide (r.kind=3)) (R.take j)
    rw [List.length_take] at h2
    omega
   have y3:y 3=ptr h.next 0:=yy 3 (by decide) (by decide)
   have P:=r_ld wr gq
   have dc:=dig_cells wr.obj
   obtain ⟨w,w1,w2⟩:=a3
   have cw:=cellW w2.wform
   have lw:ld1 (ptr h.next 0) g=some (w,g):=ld1_at w1 rfl cw.2.2
   have hll:=w2.lenL
   have push:objF l r=l ++ [r.obj] → ∃ w' g2' g3',appendA 32 32 w (.slice (some ⟨g.next,0,none⟩) 1 1) (g.alloc (u8s r.obj))=some (w',g2')∧stN 1 (ptr h.next 0) w' g2'=some (undef,g3')∧Kept g g3' (fun b=>b=h.next∨h3.next<b)∧(∀ d∈objF l r,D32 d)∧AccL 32 h.next (h3.next+1) g3' (objF l r).length (dgC (objF l r)):=fun ef=>by
    have oa:Old g (g.alloc (u8s r.obj)):=Kept.alloc _ _ _
    obtain ⟨w',g2',g3',e1,e2,ac3,k3⟩:=AccL.push (c:=g.next) (by_:=32) (Old.get oa w1) (w2.old oa) (by decide) (by decide) (by rw [oa.n0];omega) (by omega) (by have:=oa.next;omega) (by omega) dc.1 dc.2.1 dc.2.2 (by rw [Heap.get_alloc,if_pos rfl])
    refine ⟨w',g2',g3',e1,e2,(oa.mono (fun _ _ h=>h.elim)).trans (k3.mono (fun b _ q=>by rcases q with q|q;exact .inl q;exact .inr (by omega))),?_,?_⟩
    ·rw [ef]
     intro d hd
     rcases List.mem_append.1 hd with h|h
     ·exact a2 d h
     ·rw [List.mem_singleton.1 h];exact wr.obj
    ·rw [ef,List.length_append,List.length_singleton,dgC_snoc]
     exact ac3
   cases hh:r.held with
   |false=>
    have ef:objF l r=l:=by unfold objF;rw [hh];rfl
    refine ⟨_,g,(t35l35_11010b_eq CW y g).trans (by
     unfold t35l35_11010b
     simp -implicitDefEqProofs only [y4,addP_ptr,Nat.zero_add,P.l36,hh,bf',bu,guardK_false,Bool.false_eq_true,if_false,thenV_some,pu_some]
     rfl),Kept.refl _ _,?_⟩
    rw [ef]
    exact ⟨a2,w,w1,w2⟩
   |true=>
    by_cases h0:l = []
    ·have ef:objF l r=l ++ [r.obj]:=by unfold objF;rw [hh,decide_eq_true h0];rfl
     obtain ⟨w',g2',g3',e1,e2,k3,d3,ac3⟩:=push ef
     refine ⟨_,g3',(t35l35_11010b_eq CW y g).trans (by
      unfold t35l35_11010b
      simp -implicitDefEqProofs only [y4,y3,addP_ptr,Nat.zero_add,P.l36,hh,bt,bt',guardK_true,guardK_false,lw,hll,eqZ,decide_eq_true (show l.length=0 by rw [h0];rfl),if_true,P.l1,bsl_d32 g wr.obj,e1,e2,thenV_some,pu_some]
      rfl),k3,d3,ac3⟩
    ·obtain ⟨b,d,hd,dd,ix,ld⟩:=w2.last a2 h0
     have hlp:0<l.length:=List.length_pos_iff.2 h0
     by_cases he:d=r.obj
     ·have ef:objF l r=l:=by unfold objF;rw [hh,decide_eq_false h0,hd,he];simp
      refine ⟨_,g,(t35l35_11010b_eq CW y g).trans (by
       unfold t35l35_11010b
       simp -implicitDefEqProofs only [y4,y3,addP_ptr,Nat.zero_add,P.l36,hh,bt,bf,guardK_true,lw,hll,eqZ,decide_eq_false (show ¬l.length=0 by omega),sub31 hlp (by omega),ix,ld,P.l1,nqD35 dd wr.obj,decide_eq_true he,Bool.not_true,Bool.false_eq_true,if_false,if_true,thenV_some,pu_some]
       rfl),Kept.refl _ _,?_⟩
      rw [ef]
      exact ⟨a2,w,w1,w2⟩
     ·have ef:objF l r=l ++ [r.obj]:=by
       unfold objF
       rw [hh,decide_eq_false h0,hd,decide_eq_false (fun e=>he (Option.some.inj e))]
       rfl
      obtain ⟨w',g2',g3',e1,e2,k3,d3,ac3⟩:=push ef
      refine ⟨_,g3',(t35l35_11010b_eq CW y g).trans (by
       unfold t35l35_11010b
       simp -implicitDefEqProofs only [y4,y3,addP_ptr,Nat.zero_add,P.l36,hh,bt,bf,guardK_true,lw,hll,eqZ,decide_eq_false (show ¬l.length=0 by omega),sub31 hlp (by omega),ix,ld,P.l1,nqD35 dd wr.obj,decide_eq_false he,Bool.not_false,Bool.false_eq_true,if_false,if_true,bsl_d32 g wr.obj,e1,e2,thenV_some,pu_some]
       rfl),k3,d3,ac3⟩)
 obtain ⟨a2,w,w1,w2⟩:=ac
 have a2 : ∀ d∈objsV R,D32 d:=a2
 have w2:GLst 32 h4 (h3.next+1) w (objsV R).length (dgC (objsV R)):=w2
 refine ⟨w,h4,CW_body is35 hG rfl ((t35_eq _ _ _).trans ?_),O.also K4 (fun d hd q=>by omega),⟨w2.len,w2.hol,w2.one,?_⟩,a2⟩
 ·unfold t35
  simp -implicitDefEqProofs only [z2,e3,thenV_some,pu_some]
  refine (congrArg (fun o=>endN o (k35_2 CW) (resultsA Tryd.prog Tryd.f35.results.toList) (b35_4 CW)) e4).trans ?_
  rw [endN_n,t35k35_2_eq]
  unfold t35k35_2
  have x3:X 3=ptr h.next 0:=rfl
  have lw:ld1 (ptr h.next 0) h4=some (w,h4):=ld1_at w1 rfl (cellW w2.wform).2.2
  simp -implicitDefEqProofs only [x3,lw,thenV_some]
 ·rcases w2.form with f|⟨b,s,f1,f2,f3,f4⟩
  ·exact .inl f
  ·exact .inr ⟨b,s,f1,f2,by omega,f4⟩
end Go.Proofs.YtdnahgfgoajmcaaDoor

namespace Go.Proofs.YtdnahgfgoajmcaaDoor
open Go Go.Abs
attribute [local congr] thenV_congr
theorem is34:IsFn Tryd.prog 34 Tryd.f34:=⟨by kernel_rfl,by kernel_rfl,by kernel_rfl,by kernel_rfl⟩
theorem is79:IsFn Tryd.prog 79 Tryd.f79:=⟨by kernel_rfl,by kernel_rfl,by kernel_rfl,by kernel_rfl⟩
theorem b0_ints (h:Heap):bslR 1 (.int .i64 0) 0 [] h=some (.slice (some ⟨h.next,0,none⟩) 0 0,h.alloc []):=rfl
theorem b0_digs (h:Heap):bslR 32 (.agg (List.replicate 32 (.int .u8 0)).toArray) 0 [] h=some (.slice (some ⟨h.next,0,none⟩) 0 0,h.alloc []):=rfl
theorem filter_take {R:List RecD} (p:RecD→Bool) {i:Nat} (hi:i<R.length):(R.take (i+1)).filter p=(R.take i).filter p++if p R[i]=true then [R[i]] else []:=by
 rw [List.take_succ_eq_append_getElem hi,List.filter_append,List.filter_cons]
 by_cases h:p R[i]=true
 ·simp [h]
 ·simp [h]
theorem GLst.weak {z:Nat} {h:Heap} {N M:Nat} {v:Value} {n:Nat} {cs:List Value} (x:GLst z h N v n cs) (hm:M≤N):GLst z h M v n cs:=by
 refine ⟨x.len,x.hol,x.one,?_⟩
 rcases x.form with f|⟨b,s,f1,f2,f3,f4⟩
 ·exact .inl f
 ·exact .inr ⟨b,s,f1,f2,Nat.le_trans hm f3,f4⟩
set_option maxRecDepth 100000 in
theorem r80 {h:Heap} (hG:4≤h.n0) {v:Value} {R:List RecD} (hv:RSl h v R) (hR:R.length≤100000) {o:List Nat} (ho:D32 o) :
  ∃ w h',CW 80 [v,.agg (u8s o).toArray] h=some (w,h')∧Old h h'∧GLst 1 h' h.next w (R.filter (heldQ o)).length (intsC ((R.filter (heldQ o)).map (·.holder))):=by
 have hll:=hv.len
 have dc:=dig_cells ho
 have b1:=box_at h (u8s o) dc.2.2
 have o1:Old h (h.alloc (u8s o)):=Kept.alloc _ _ _
 have g1:(h.alloc (u8s o)).get h.next=some (u8s o):=by rw [Heap.get_alloc,if_pos rfl]
 generalize h.alloc (u8s o)=h1 at *
 have b2:=b0_ints h1
 have G0:=GLst.new 1 h1 h1.next (Nat.le_refl _)
 have o2:Old h1 (h1.alloc []):=Kept.alloc _ _ _
 generalize h1.alloc []=h2 at *
 generalize Value.slice (some ⟨h1.next,0,none⟩) 0 0=w0 at *
 have O2:=o1.trans o2
 have key : ∃ q:Out,t80 CW v (.agg (u8s o).toArray) h=q ∧ ∃ w h',q=some (w,h')∧Old h h'∧GLst 1 h' h.next w (R.filter (heldQ o)).length (intsC ((R.filter (heldQ o)).map (·.holder))):=by
  refine ⟨_,rfl,?_⟩
  unfold t80
  simp -implicitDefEqProofs only [b1,b2,thenV_some,pu_some]
  refine endL_fin (n:=45) (fin:=fun ex y g=>ex = .exit 0∧Old h g∧GLst 1 g h1.next (y 5) (R.filter (heldQ o)).length (intsC ((R.filter (heldQ o)).map (·.holder)))) (Q:=fun q:Out => ∃ w h',q=some (w,h')∧Old h h'∧GLst 1 h' h.next w (R.filter (heldQ o)).length (intsC ((R.filter (heldQ o)).map (·.holder))))
   (loop_fin (x:=up (bs [v,.agg (u8s o).toArray]) [(3,ptr h.next 0),(4,.slice none 0 0),(5,w0),(6,.int .i64 0),(7,w0)]) (t80l80_11010_eq CW) (Inv:=fun k y g => ∃ i,i+k=R.length∧y 0=v∧y 3=ptr h.next 0∧y 6=i64n i∧Old h1 g∧GLst 1 g h1.next (y 5) ((R.take i).filter (heldQ o)).length (intsC (((R.take i).filter (heldQ o)).map (·.holder)))) ?_ R.length (by have:rounds=18446744073709551616:=rfl;omega) ⟨0,by omega,rfl,rfl,rfl,o2,by rw [List.take_zero];exact G0⟩) ?_
  ·rintro k y g ⟨i,hik,y0,y3,y6,Og,G⟩
   have O:=o1.trans Og
   unfold t80l80_11010
   simp -implicitDefEqProofs only [y0,y6,hll,lss3,thenV_some,pu_some]
   by_cases hi:i<R.length
   ·obtain ⟨b,oo,ix,wr,ld⟩:=hv.parts hi
    obtain ⟨_,p0,p1,p33,_,p36,_,_⟩:=ld g O
    have l3:=ldN_all (Old.get Og g1) dc.1 dc.2.1
    have a6:bin Tryd.prog .add 3 (i64n i) (.int .i64 1)=some (i64n (i+1)):=add31 (by omega)
    have ft:=filter_take (heldQ o) hi
    have hlen:((R.take i).filter (heldQ o)).length≤100000:=by
     have h1:=List.length_filter_le (heldQ o) (R.take i)
     rw [List.length_take] at h1
     omega
    by_cases hk:R[i].kind=3
    ·cases hh:R[i].held with
     |true=>
      rw [hh] at p36
      by_cases ho':R[i].obj=o
      ·rw [if_pos (by unfold heldQ;simp [hk,hh,ho'])] at ft
       have oa:Old g (g.alloc [.int .i64 R[i].holder]):=Kept.alloc _ _ _
       obtain ⟨w',g5,e5,G5,k5⟩:=(G.old oa).push (c:=g.next) (by_:=8) (e := [.int .i64 R[i].holder]) (by decide) (by decide) (by rw [oa.n0,Og.n0];exact h1.n0_le_next) (Og.trans oa).next (by omega) rfl rfl rfl (by rw [Heap.get_alloc,if_pos rfl])
       have k2:Old h1 g5:=(Og.trans oa).also k5 (fun d hd q=>by
        have:=(G.blk q).1
        omega)
       simp -implicitDefEqProofs only [decide_eq_true hi,ix,addP_ptr,p0,eq56,decide_eq_true hk,bt,guardK_true,p36,if_true,p1,y3,l3,eqD35 wr.obj ho,decide_eq_true ho',p33,bsl_int,e5,a6,thenV_some,pu_some]
       refine Rnd.next (k-1) (by omega) ⟨i+1,by omega,y0,y3,rfl,k2,?_⟩
       rw [ft,List.map_append,List.map_cons,List.map_nil,intsC_snoc,List.length_append,List.length_singleton]
       exact G5
      ·rw [if_neg (by unfold heldQ;simp [ho']),List.append_nil] at ft
       simp -implicitDefEqProofs only [decide_eq_true hi,ix,addP_ptr,p0,eq56,decide_eq_true hk,bt,guardK_true,p36,if_true,p1,y3,l3,eqD35 wr.obj ho,decide_eq_false ho',a6,thenV_some,pu_some]
       exact Rnd.next (k-1) (by omega) ⟨i+1,by omega,y0,y3,rfl,Og,by rw [ft];exact G⟩
     |false=>
      rw [hh] at p36
      rw [if_neg (by unfold heldQ;simp [hh]),List.append_nil] at ft
      simp -implicitDefEqProofs only [decide_eq_true hi,ix,addP_ptr,p0,eq56,decide_eq_true hk,bt,bf',guardK_true,guardK_false,p36,if_true,Bool.false_eq_true,if_false,a6,thenV_some,pu_some]
      exact Rnd.next (k-1) (by omega) ⟨i+1,by omega,y0,y3,rfl,Og,by rw [ft];exact G⟩
    ·rw [if_neg (by unfold heldQ;simp [hk]),List.append_nil] at ft
     simp -implicitDefEqProofs only [decide_eq_true hi,ix,addP_ptr,p0,eq56,decide_eq_false hk,bf',guardK_false,Bool.false_eq_true,if_false,a6,thenV_some,pu_some]
     exact Rnd.next (k-1) (by omega) ⟨i+1,by omega,y0,y3,rfl,Og,by rw [ft];exact G⟩
   ·have hE:i=R.length:=by omega
    rw [hE,List.take_length] at G
    simp -implicitDefEqProofs only [decide_eq_false hi,thenV_some]
    exact Rnd.out 0 ⟨rfl,O,G⟩
  ·rintro ex z g ⟨rfl,Og,G⟩
   simp -implicitDefEqProofs only [endL_exit,b80_4e,t80k80_2_eq]
   unfold t80k80_2
   exact ⟨z 5,g,rfl,Og,G.weak o1.next⟩
 obtain ⟨q,e,w',h',e',oo⟩:=key
 exact ⟨w',h',CW_body is80 hG rfl ((t80_eq _ _ _ _).trans (e.trans e')),oo⟩
def objG (l:List (List Nat)) (r:RecD):List (List Nat):=if r.kind=3 then objF l r else l
theorem objsV_eq (R:List RecD):objsV R=R.foldl objG []:=by
 unfold objsV
 rw [List.foldl_filter]
 congr 1
 funext l r
 unfold objG
 by_cases h:r.kind=3<;>simp [h]
theorem objG_take {R:List RecD} {i:Nat} (hi:i<R.length):(R.take (i+1)).foldl objG []=objG ((R.take i).foldl objG []) R[i]:=by
 rw [List.take_succ_eq_append_getElem hi,List.foldl_append]
 rfl
theorem objG_len : ∀ (R:List RecD) (l:List (List Nat)),(R.foldl objG l).length≤l.length+R.length
 | [],l=>Nat.le_refl _
 |r::R,l=>by
  have h1:=objG_len R (objG l r)
  have h2:(objG l r).length≤l.length+1:=by
   unfold objG
   split
   ·exact objF_len l r
   ·omega
  rw [List.foldl_cons,List.length_cons]
  omega
set_option maxRecDepth 100000 in
theorem r36 {h:Heap} (hG:4≤h.n0) {v:Value} {R:List RecD} (hv:RSl h v R) (hR:R.length≤100000) :
  ∃ w h',CW 36 [v] h=some (w,h')∧Old h h'∧GLst 32 h' h.next w (objsV R).length (dgC (objsV R)):=by
 have hll:=hv.len
 have b2:=b0_digs h
 have G0:=GLst.new 32 h h.next (Nat.le_refl _)
 have o2:Old h (h.alloc []):=Kept.alloc _ _ _
 generalize h.alloc []=h2 at *
 generalize Value.slice (some ⟨h.next,0,none⟩) 0 0=w0 at *
 have key : ∃ q:Out,t36 CW v h=q ∧ ∃ w h',q=some (w,h')∧Old h h'∧GLst 32 h' h.next w (objsV R).length (dgC (objsV R)):=by
  refine ⟨_,rfl,?_⟩
  unfold t36
  simp -implicitDefEqProofs only [b2,thenV_some,pu_some]
  rw [objsV_eq]
  refine endL_fin (n:=53) (fin:=fun ex y g=>ex = .exit 0∧Old h g∧GLst 32 g h.next (y 3) (R.foldl objG []).length (dgC (R.foldl objG []))) (Q:=fun q:Out => ∃ w h',q=some (w,h')∧Old h h'∧GLst 32 h' h.next w (R.foldl objG []).length (dgC (R.foldl objG [])))
   (loop_fin (x:=up (bs [v]) [(2,.slice none 0 0),(3,w0),(4,.int .i64 0),(5,w0)]) (t36l36_11010_eq CW) (Inv:=fun k y g => ∃ i,i+k=R.length∧y 0=v∧y 4=i64n i∧Old h g∧(∀ d∈(R.take i).foldl objG [],D32 d)∧GLst 32 g h.next (y 3) ((R.take i).foldl objG []).length (dgC ((R.take i).foldl objG []))) ?_ R.length (by have:rounds=18446744073709551616:=rfl;omega) ⟨0,by omega,rfl,rfl,o2,(fun _ h=>by cases h),by rw [List.take_zero];exact G0⟩) ?_
  ·rintro k y g ⟨i,hik,y0,y4,Og,a2,G⟩
   unfold t36l36_11010
   simp -implicitDefEqProofs only [y0,y4,hll,lss3,thenV_some,pu_some]
   by_cases hi:i<R.length
   ·obtain ⟨b,oo,ix,wr,ld⟩:=hv.parts hi
    obtain ⟨_,p0,p1,_,_,p36,_,_⟩:=ld g Og
    have a4:bin Tryd.prog .add 3 (i64n i) (.int .i64 1)=some (i64n (i+1)):=add31 (by omega)
    have ft:=objG_take hi
    have hlen:=objG_len (R.take i) []
    rw [List.length_nil,List.length_take] at hlen
    have hgl:=G.lenL
    have dc:=dig_cells wr.obj
    generalize (R.take i).foldl objG []=l at *
    have stay:objG l R[i]=l→(∀ d∈(R.take (i+1)).foldl objG [],D32 d)∧GLst 32 g h.next (y 3) ((R.take (i+1)).foldl objG []).length (dgC ((R.take (i+1)).foldl objG [])):=fun e=>by
     rw [ft,e]
     exact ⟨a2,G⟩
    have push:objG l R[i]=l ++ [R[i].obj] → ∃ w' g5,appendA 32 32 (y 3) (.slice (some ⟨g.next,0,none⟩) 1 1) (g.alloc (u8s R[i].obj))=some (w',g5)∧Old h g5∧(∀ d∈(R.take (i+1)).foldl objG [],D32 d)∧GLst 32 g5 h.next w' ((R.take (i+1)).foldl objG []).length (dgC ((R.take (i+1)).foldl objG [])):=fun e=>by
     have oa:Old g (g.alloc (u8s R[i].obj)):=Kept.alloc _ _ _
     obtain ⟨w',g5,e5,G5,k5⟩:=(G.old oa).push (c:=g.next) (by_:=32) (by decide) (by decide) (by rw [oa.n0,Og.n0];exact h.n0_le_next) (Og.trans oa).next (by omega) dc.1 dc.2.1 dc.2.2 (by rw [Heap.get_alloc,if_pos rfl])
     refine ⟨w',g5,e5,(Og.trans oa).also k5 (fun d hd q=>by
      have:=(G.blk q).1
      omega),?_,?_⟩
     ·rw [ft,e]
      intro d hd
      rcases List.mem_append.1 hd with h|h
      ·exact a2 d h
      ·rw [List.mem_singleton.1 h];exact wr.obj
     ·rw [ft,e,List.length_append,List.length_singleton,dgC_snoc]
      exact G5
    by_cases hk:R[i].kind=3
    ·have eG:objG l R[i]=objF l R[i]:=by unfold objG;rw [if_pos hk]
     cases hh:R[i].held with
     |true=>
      rw [hh] at p36
      by_cases h0:l = []
      ·obtain ⟨w',g5,e5,O5,d5,G5⟩:=push (by rw [eG];unfold objF;rw [hh,decide_eq_true h0];rfl)
       simp -implicitDefEqProofs only [decide_eq_true hi,ix,addP_ptr,p0,eq56,decide_eq_true hk,bt,bt',guardK_true,guardK_false,p36,if_true,hgl,eqZ,decide_eq_true (show l.length=0 by rw [h0];rfl),p1,bsl_d32 g wr.obj,e5,a4,thenV_some,pu_some]
       exact Rnd.next (k-1) (by omega) ⟨i+1,by omega,y0,rfl,O5,d5,G5⟩
      ·obtain ⟨bb,d,hd,dd,ixl,ldl⟩:=G.last a2 h0
       have hlp:0<l.length:=List.length_pos_iff.2 h0
       by_cases he:d=R[i].obj
       ·obtain ⟨d5,G5⟩:=stay (by rw [eG];unfold objF;rw [hh,decide_eq_false h0,hd,he];simp)
        simp -implicitDefEqProofs only [decide_eq_true hi,ix,addP_ptr,p0,eq56,decide_eq_true hk,bt,bf,guardK_true,p36,if_true,hgl,eqZ,decide_eq_false (show ¬l.length=0 by omega),sub31 hlp (by omega),ixl,ldl,p1,nqD35 dd wr.obj,decide_eq_true he,Bool.not_true,Bool.false_eq_true,if_false,a4,thenV_some,pu_some]
        exact Rnd.next (k-1) (by omega) ⟨i+1,by omega,y0,rfl,Og,d5,G5⟩
       ·obtain ⟨w',g5,e5,O5,d5,G5⟩:=push (by
         rw [eG]
         unfold objF
         rw [hh,decide_eq_false h0,hd,decide_eq_false (fun e=>he (Option.some.inj e))]
         rfl)
        simp -implicitDefEqProofs only [decide_eq_true hi,ix,addP_ptr,p0,eq56,decide_eq_true hk,bt,bf,guardK_true,p36,if_true,hgl,eqZ,decide_eq_false (show ¬l.length=0 by omega),sub31 hlp (by omega),ixl,ldl,p1,nqD35 dd wr.obj,decide_eq_false he,Bool.not_false,Bool.false_eq_true,if_false,bsl_d32 g wr.obj,e5,a4,thenV_some,pu_some]
        exact Rnd.next (k-1) (by omega) ⟨i+1,by omega,y0,rfl,O5,d5,G5⟩
     |false=>
      rw [hh] at p36
      obtain ⟨d5,G5⟩:=stay (by rw [eG];unfold objF;rw [hh];rfl)
      simp -implicitDefEqProofs only [decide_eq_true hi,ix,addP_ptr,p0,eq56,decide_eq_true hk,bt,bf',bu,guardK_true,guardK_false,p36,if_true,Bool.false_eq_true,if_false,a4,thenV_some,pu_some]
      exact Rnd.next (k-1) (by omega) ⟨i+1,by omega,y0,rfl,Og,d5,G5⟩
    ·obtain ⟨d5,G5⟩:=stay (by unfold objG;rw [if_neg hk])
     simp -implicitDefEqProofs only [decide_eq_true hi,ix,addP_ptr,p0,eq56,decide_eq_false hk,bf',bu,guardK_false,Bool.false_eq_true,if_false,a4,thenV_some,pu_some]
     exact Rnd.next (k-1) (by omega) ⟨i+1,by omega,y0,rfl,Og,d5,G5⟩
   ·have hE:i=R.length:=by omega
    rw [hE,List.take_length] at G
    simp -implicitDefEqProofs only [decide_eq_false hi,thenV_some]
    exact Rnd.out 0 ⟨rfl,Og,G⟩
  ·rintro ex z g ⟨rfl,Og,G⟩
   simp -implicitDefEqProofs only [endL_exit,b36_4e,t36k36_2_eq]
   unfold t36k36_2
   exact ⟨z 3,g,rfl,Og,G⟩
 obtain ⟨q,e,w',h',e',oo⟩:=key
 exact ⟨w',h',CW_body is36 hG rfl ((t36_eq _ _ _).trans (e.trans e')),oo⟩
theorem b34_6e (C:CallF) (e:Env) (h:Heap):b34_6 C 0 e h=k34_4 C e h:=rfl
theorem b79_6e (C:CallF) (e:Env) (h:Heap):b79_6 C 0 e h=k79_4 C e h:=rfl
theorem results34:Tryd.f34.results.toList = [.tmp 4]:=by kernel_rfl
theorem results79:Tryd.f79.results.toList = [.tmp 4]:=by kernel_rfl
theorem GLst.dig {h:Heap} {N:Nat} {w:Value} {l:List (List Nat)} (x:GLst 32 h N w l.length (dgC l)) (hd : ∀ d∈l,D32 d) {j:Nat} (hj:j<l.length) : ∃ b,idxS 32 w (i64n j)=some (ptr b (j*32))∧ldN 32 (ptr b (j*32)) h=some (.agg (u8s l[j]).toArray,h):=by
 obtain ⟨b,ix,hg,_⟩:=x.at hj
 have e:=dgC_get hd hj
 have hm:=dgC_len hd
 have hle:=mul_le (z:=32) hj
 have:=ldN_at (o:=j*32) (n:=32) hg (by omega) (by rw [e];exact (dig_cells (hd _ (List.getElem_mem hj))).2.1)
 rw [e] at this
 exact ⟨b,ix,this⟩
theorem GLst.int {h:Heap} {N:Nat} {w:Value} {l:List Int} (x:GLst 1 h N w l.length (intsC l)) {j:Nat} (hj:j<l.length) : ∃ b,idxS 1 w (i64n j)=some (ptr b (j*1))∧ld1 (ptr b (j*1)) h=some (.int .i64 l[j],h):=by
 obtain ⟨b,ix,hg,_⟩:=x.at hj
 refine ⟨b,ix,ld1_at hg ?_ rfl⟩
 unfold intsC
 rw [Nat.mul_one,List.getElem?_map,List.getElem?_eq_getElem hj]
 rfl
set_option maxRecDepth 100000 in
theorem r34 {h:Heap} (hG:4≤h.n0) {N M:Nat} {v w:Value} {A B:List (List Nat)} (hv:GLst 32 h N v A.length (dgC A)) (hw:GLst 32 h M w B.length (dgC B)) (hA : ∀ d∈A,D32 d) (hB : ∀ d∈B,D32 d) (hl:A.length≤1000000):CW 34 [v,w] h=some (.bool (decide (A=B)),h):=by
 have la:=hv.lenL
 have lb:=hw.lenL
 refine CW_body is34 hG rfl ((t34_eq _ _ _ _).trans ?_)
 unfold t34
 simp -implicitDefEqProofs only [la,lb,nq3,thenV_some,pu_some]
 by_cases e:A.length=B.length
 ·simp -implicitDefEqProofs only [decide_eq_true e,Bool.not_true]
  refine endL_fin (n:=26) (fin:=fun ex y g=>g=h∧((ex = .exit 0∧A=B)∨(ex = .ret∧A≠B∧y 4 = .bool false))) (Q:=fun o:Out=>o=some (.bool (decide (A=B)),h))
   (loop_fin (t34l34_11010_eq CW) (Inv:=fun k y g => ∃ i,i+k=A.length∧y 0=v∧y 1=w∧y 5=i64n i∧g=h∧A.take i=B.take i) ?_ A.length (by have:rounds=18446744073709551616:=rfl;omega) ⟨0,by omega,rfl,rfl,rfl,rfl,rfl⟩) ?_
  ·rintro k y g ⟨i,hik,y0,y1,y5,rfl,ht⟩
   unfold t34l34_11010
   simp -implicitDefEqProofs only [y0,y5,la,lss3,thenV_some,pu_some]
   by_cases hi:i<A.length
   ·have hi2:i<B.length:=by omega
    obtain ⟨b,ix,L1⟩:=hv.dig hA hi
    obtain ⟨b',ix',L2⟩:=hw.dig hB hi2
    simp -implicitDefEqProofs only [decide_eq_true hi,y0,y1,y5,ix,ix',L1,L2,nqD35 (hA _ (List.getElem_mem hi)) (hB _ (List.getElem_mem hi2)),thenV_some,pu_some]
    by_cases hab:A[i]=B[i]
    ·have a5:bin Tryd.prog .add 3 (i64n i) (.int .i64 1)=some (i64n (i+1)):=add31 (by omega)
     simp -implicitDefEqProofs only [decide_eq_true hab,Bool.not_true,a5,thenV_some,pu_some]
     refine Rnd.next (k-1) (by omega) ⟨i+1,by omega,y0,y1,rfl,rfl,?_⟩
     rw [List.take_succ_eq_append_getElem hi,List.take_succ_eq_append_getElem hi2,ht,hab]
    ·simp -implicitDefEqProofs only [decide_eq_false hab,Bool.not_false,thenV_some,pu_some]
     refine Rnd.ret ⟨rfl,.inr ⟨rfl,fun q=>hab (by simp [q]),rfl⟩⟩
   ·have hiE:i=A.length:=by omega
    simp -implicitDefEqProofs only [decide_eq_false hi,thenV_some,pu_some]
    refine Rnd.out 0 ⟨rfl,.inl ⟨rfl,?_⟩⟩
    rw [List.take_of_length_le (by omega),List.take_of_length_le (by omega)] at ht
    exact ht
  ·rintro ex z g ⟨rfl,⟨rfl,q⟩|⟨rfl,q,z4⟩⟩
   ·simp -implicitDefEqProofs only [endL_exit,b34_6e,t34k34_4_eq]
    unfold t34k34_4
    rw [decide_eq_true q]
    rfl
   ·rw [endL_ret,res_one results34 (by decide),z4,decide_eq_false q]
 ·simp -implicitDefEqProofs only [decide_eq_false e,Bool.not_false,thenV_some]
  rw [decide_eq_false (fun q=>e (by rw [q]))]
theorem nqI (a b:Int):bin Tryd.prog .neq 3 (.int .i64 a) (.int .i64 b)=some (.bool (!(decide (a=b)))):=by
 rw [bin_neq]
 congr 2
set_option maxRecDepth 100000 in
theorem r79 {h:Heap} (hG:4≤h.n0) {N M:Nat} {v w:Value} {A B:List Int} (hv:GLst 1 h N v A.length (intsC A)) (hw:GLst 1 h M w B.length (intsC B)) (hl:A.length≤1000000):CW 79 [v,w] h=some (.bool (decide (A=B)),h):=by
 have la:=hv.lenL
 have lb:=hw.lenL
 refine CW_body is79 hG rfl ((t79_eq _ _ _ _).trans ?_)
 unfold t79
 simp -implicitDefEqProofs only [la,lb,nq3,thenV_some,pu_some]
 by_cases e:A.length=B.length
 ·simp -implicitDefEqProofs only [decide_eq_true e,Bool.not_true]
  refine endL_fin (n:=26) (fin:=fun ex y g=>g=h∧((ex = .exit 0∧A=B)∨(ex = .ret∧A≠B∧y 4 = .bool false))) (Q:=fun o:Out=>o=some (.bool (decide (A=B)),h))
   (loop_fin (t79l79_11010_eq CW) (Inv:=fun k y g => ∃ i,i+k=A.length∧y 0=v∧y 1=w∧y 5=i64n i∧g=h∧A.take i=B.take i) ?_ A.length (by have:rounds=18446744073709551616:=rfl;omega) ⟨0,by omega,rfl,rfl,rfl,rfl,rfl⟩) ?_
  ·rintro k y g ⟨i,hik,y0,y1,y5,rfl,ht⟩
   unfold t79l79_11010
   simp -implicitDefEqProofs only [y0,y5,la,lss3,thenV_some,pu_some]
   by_cases hi:i<A.length
   ·have hi2:i<B.length:=by omega
    obtain ⟨b,ix,L1⟩:=hv.int hi
    obtain ⟨b',ix',L2⟩:=hw.int hi2
    simp -implicitDefEqProofs only [decide_eq_true hi,y0,y1,y5,ix,ix',L1,L2,nqI,thenV_some,pu_some]
    by_cases hab:A[i]=B[i]
    ·have a5:bin Tryd.prog .add 3 (i64n i) (.int .i64 1)=some (i64n (i+1)):=add31 (by omega)
     simp -implicitDefEqProofs only [decide_eq_true hab,Bool.not_true,a5,thenV_some,pu_some]
     refine Rnd.next (k-1) (by omega) ⟨i+1,by omega,y0,y1,rfl,rfl,?_⟩
     rw [List.take_succ_eq_append_getElem hi,List.take_succ_eq_append_getElem hi2,ht,hab]
    ·simp -implicitDefEqProofs only [decide_eq_false hab,Bool.not_false,thenV_some,pu_some]
     refine Rnd.ret ⟨rfl,.inr ⟨rfl,fun q=>hab (by simp [q]),rfl⟩⟩
   ·have hiE:i=A.length:=by omega
    simp -implicitDefEqProofs only [decide_eq_false hi,thenV_some,pu_some]
    refine Rnd.out 0 ⟨rfl,.inl ⟨rfl,?_⟩⟩
    rw [List.take_of_length_le (by omega),List.take_of_length_le (by omega)] at ht
    exact ht
  ·rintro ex z g ⟨rfl,⟨rfl,q⟩|⟨rfl,q,z4⟩⟩
   ·simp -implicitDefEqProofs only [endL_exit,b79_6e,t79k79_4_eq]
    unfold t79k79_4
    rw [decide_eq_true q]
    rfl
   ·rw [endL_ret,res_one results79 (by decide),z4,decide_eq_false q]
 ·simp -implicitDefEqProofs only [decide_eq_false e,Bool.not_false,thenV_some]
  rw [decide_eq_false (fun q=>e (by rw [q]))]
end Go.Proofs.YtdnahgfgoajmcaaDoor

