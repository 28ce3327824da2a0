/-
  A part of the proof, shortened by a program.
  Conditions: as each theorem states.
-/
import Derived.Test.YtdhpgacmgebjdaaGreatDoorG5
import Derived.LoopNIn
set_option linter.all false
namespace Go.Abs
noncomputable section
def zG:Ex->Exit
 | .normal => .normal
 | .ret => .ret
 | .exit i => .exit i
section code
variable {P:Program} {C:ah}
def gT {l:Nat} {e e':aQ} {h h':ae} {x:Ex} (he:endLoopA l e h=some (x,e',h')) :
  ∃ st pend tmps params assign body,h.getB l=some (.obj (.loop st pend tmps params assign body))/\st ≠ .busy/\x=pend.getD .normal/\e'=e/\h'=h.setO l (.loop .exhausted pend tmps params assign body):=by
 unfold endLoopA at he;split at he
 ·rename_i st pend tmps params assign body hg;split at he
  ·cases he
  ·rename_i hb;cases he;exact ⟨st,pend,tmps,params,assign,body,hg,hb,rfl,rfl,rfl⟩
 ·cases he
def lZ {g:Operand} {params:Array Tmp} {assign body:Code} {e e':aQ} {h h':ae} {x:Ex} (he:codeA P C (.rangeFunc g params assign body) e h=some (x,e',h')) :
  ∃ i first captured v h2, ev e g = .func (.func i) first captured ∧ (∃ fn, P.funcs[i]? = some fn ∧ (fn.name == "runtime.NumGoroutine") = false ∧ fn.body.isNone = false) ∧
   C i (first.toList ++ [.func (.yield h.next) #[] #[]]++captured.toList) (h.bj (.obj (.loop .ready none e params.toList assign body)))=some (v,h2)/\endLoopA h.next e h2=some (x,e',h'):=by
 simp only [codeA] at he;split at he
 ·rename_i i first captured hev
  split at he
  ·rename_i hi;split at he
   ·rename_i v h2 hc;refine ⟨i,first,captured,v,h2,hev,?_,hc,he⟩;unfold hasBody at hi;split at hi
    ·rename_i fn hf;rw [DN,FU] at hi;exact ⟨fn,hf,hi.2,by rw [Option.isNone_eq_false_iff];exact hi.1⟩
    ·cases hi
   ·cases he
  ·cases he
 ·cases he
def uO (hC:aZ P C) {ops:Array Oper} : ∀ (l:List Oper) {e e':aQ} {h h':ae},opsA P C ops l e h=some (e',h')->bp h h'
 | [],e,e',h,h',he=>by simp only [opsA,DH,DQ] at he;obtain ⟨_,rfl⟩:=he;exact bp.refl _
 |o::l,e,e',h,h',he=>by
  simp only [opsA] at he;split at he
  ·rename_i e1 h1 hs;unfold stepA at hs;split at hs
   ·split at hs
    ·rename_i v hv hop;cases hs;exact (jL hC hop).trans (uO hC l he)
    ·cases hs
   ·cases hs;exact uO hC l he
  ·cases he
def sX (hC:aZ P C) {ops:Array Oper} {d:Bool} {e e':aQ} {h h':ae} (he:regionA P C ops d e h=some (e',h')):bp h h':=by
 unfold regionA at he;split at he
 ·split at he
  ·split at he
   ·rename_i tr e1 h1 htr;split at he
    ·simp only [DH,DQ] at he;obtain ⟨rfl,rfl⟩:=he;obtain ⟨E,H,V,R,e0,h0,en,hn,T,_⟩:=pY htr;rw [<-h0,<-hn];exact T.grow hC (FB _) (DO _)
    ·cases he
   ·cases he
  ·cases he
 ·exact uO hC _ he
def uL {step:aQ->ae->Option (Ex×aQ×ae)} (hs : ∀ e h x e' h',step e h=some (x,e',h')->bp h h') : ∀ (n:Nat) {e e':aQ} {h h':ae} {x:Ex},iter step n e h=some (x,e',h')->bp h h'
 | 0,e,e',h,h',x,he=>by cases he
 |n+1,e,e',h,h',x,he=>by
  simp only [iter] at he;split at he
  ·rename_i e1 h1 h2;exact (hs _ _ _ _ _ h2).trans (uL hs n he)
  ·exact hs _ _ _ _ _ he
def bN (hC:aZ P C) : ∀ (c:Code) {e e':aQ} {h h':ae} {x:Ex},codeA P C c e h=some (x,e',h')->bp h h'
 | .skip,e,e',h,h',x,he=>by simp only [codeA,DH,DQ] at he;obtain ⟨_,_,rfl⟩:=he;exact bp.refl _
 | .region _ ops d,e,e',h,h',x,he=>by
   simp only [codeA] at he;split at he
   ·rename_i e1 h1 h2;cases he;exact sX hC h2
   ·cases he
 | .seq a b,e,e',h,h',x,he=>by
   simp only [codeA] at he;split at he
   ·rename_i e1 h1 h2;exact (bN hC a h2).trans (bN hC b he)
   ·exact bN hC a he
 | .cond c a b,e,e',h,h',x,he=>by
   simp only [codeA] at he;split at he
   ·exact bN hC a he
   ·exact bN hC b he
   ·cases he
 | .block i b,e,e',h,h',x,he=>by
   simp only [codeA] at he;split at he
   ·rename_i j e1 h1 h2;simp only [DH,DQ] at he;obtain ⟨_,_,rfl⟩:=he;exact bN hC b h2
   ·exact bN hC b he
 | .loop b,e,e',h,h',x,he=>by simp only [codeA] at he;exact uL (fun _ _ _ _ _ h=>bN hC b h) _ he
 | .exit _,e,e',h,h',x,he=>by simp only [codeA,DH,DQ] at he;obtain ⟨_,_,rfl⟩:=he;exact bp.refl _
 | .scope b,e,e',h,h',x,he=>by simp only [codeA] at he;exact bN hC b he
 | .label _,e,e',h,h',x,he=>by simp only [codeA,DH,DQ] at he;obtain ⟨_,_,rfl⟩:=he;exact bp.refl _
 | .ret,e,e',h,h',x,he=>by simp only [codeA,DH,DQ] at he;obtain ⟨_,_,rfl⟩:=he;exact bp.refl _
 | .goto _,e,e',h,h',x,he=>by cases he
 | .rangeFunc ..,e,e',h,h',x,he=>by obtain ⟨i,first,captured,v,h2,_,_,hc,hl⟩:=lZ he;obtain ⟨_,_,_,_,_,_,_,_,_,_,rfl⟩:=gT hl;exact ((bp.allocO _ _).trans (hC.grow _ _ _ _ _ hc)).trans (bp.setO _ _ _)
 | .refuse _,e,e',h,h',x,he=>by cases he
def Dc (hC:aZ P C) {ops:Array Oper} : ∀ (l:List Oper) {e e':aQ} {h h':ae},l.all (nq P)=true->P.globals.size<=h.n0->cy h.next e=true->aA h->opsA P C ops l e h=some (e',h')->cy h'.next e'=true/\aA h'
 | [],e,e',h,h',_,_,he,hh,h1=>by simp only [opsA,DH,DQ] at h1;obtain ⟨rfl,rfl⟩:=h1;exact ⟨he,hh⟩
 |o::l,e,e',h,h',hok,hg,he,hh,h1=>by
  simp only [List.all_cons,DN] at hok;simp only [opsA] at h1;split at h1
  ·rename_i e1 h2 hs;unfold stepA at hs;split at hs
   ·split at hs
    ·rename_i v hv hop;cases hs;have hgr:=jL hC hop;obtain ⟨g1,g2⟩:=yU hC hh (fun x hm=>vw hg he (DX.1 hok.1 x hm)) hop;exact Dc hC l hok.2 (by rw [hgr.2.1];exact hg) (lO (bW hgr.1 he) g1) g2 h1
    ·cases hs
   ·cases hs;exact Dc hC l hok.2 hg (lO he rfl) hh h1
  ·cases h1
def xQ (hC:aZ P C) {ops:Array Oper} {d:Bool} {e e':aQ} {h h':ae} (hok:ops.toList.all (nq P)=true) (hg:P.globals.size<=h.n0) (hbe:cy h.next e=true) (hbh:aA h)
  (he:regionA P C ops d e h=some (e',h')):cy h'.next e'=true/\aA h':=by
 unfold regionA at he;split at he
 ·split at he
  ·split at he
   ·rename_i tr e1 h1 htr;split at he
    ·simp only [DH,DQ] at he;obtain ⟨rfl,rfl⟩:=he;obtain ⟨E,H,V,R,e0,h0,en,hn,T,_⟩:=pY htr;rw [<-en,<-hn];exact T.bd hC (by rw [h0];exact hg) (fun p x hx=>DX.1 hok x.2 (by rw [GB];exact GU (zj.1 (EC hx)))) (by rw [h0,e0];exact hbe) (by rw [h0];exact hbh) _ (DO _)
    ·cases he
   ·cases he
  ·cases he
 ·exact Dc hC _ hok hg hbe hbh he
def iter_bd (hC:aZ P C) {b:Code} (hb : ∀ e h x e' h',P.globals.size<=h.n0->cy h.next e=true->aA h->codeA P C b e h=some (x,e',h')->cy h'.next e'=true/\aA h') :
  ∀ (n:Nat) {e e':aQ} {h h':ae} {x:Ex},P.globals.size<=h.n0->cy h.next e=true->aA h->iter (codeA P C b) n e h=some (x,e',h')->cy h'.next e'=true/\aA h'
 | 0,e,e',h,h',x,_,_,_,he=>by cases he
 |n+1,e,e',h,h',x,hg,hbe,hbh,he=>by
  simp only [iter] at he;split at he
  ·rename_i e1 h1 h2;obtain ⟨g1,g2⟩:=hb _ _ _ _ _ hg hbe hbh h2;exact iter_bd hC hb n (by rw [(bN hC b h2).2.1];exact hg) g1 g2 he
  ·exact hb _ _ _ _ _ hg hbe hbh he
def dF (hC:aZ P C) : ∀ (c:Code) {e e':aQ} {h h':ae} {x:Ex},codeOk P c=true->P.globals.size<=h.n0->cy h.next e=true->aA h->codeA P C c e h=some (x,e',h')->cy h'.next e'=true/\aA h'
 | .skip,e,e',h,h',x,_,_,hbe,hbh,he=>by simp only [codeA,DH,DQ] at he;obtain ⟨_,rfl,rfl⟩:=he;exact ⟨hbe,hbh⟩
 | .region _ ops d,e,e',h,h',x,hok,hg,hbe,hbh,he=>by
   simp only [codeOk] at hok;simp only [codeA] at he;split at he
   ·rename_i e1 h1 h2;cases he;exact xQ hC hok hg hbe hbh h2
   ·cases he
 | .seq a b,e,e',h,h',x,hok,hg,hbe,hbh,he=>by
   simp only [codeOk,DN] at hok;simp only [codeA] at he;split at he
   ·rename_i e1 h1 h2;obtain ⟨g1,g2⟩:=dF hC a hok.1 hg hbe hbh h2;exact dF hC b hok.2 (by rw [(bN hC a h2).2.1];exact hg) g1 g2 he
   ·exact dF hC a hok.1 hg hbe hbh he
 | .cond c a b,e,e',h,h',x,hok,hg,hbe,hbh,he=>by
   simp only [codeOk,DN] at hok;simp only [codeA] at he;split at he
   ·exact dF hC a hok.1.2 hg hbe hbh he
   ·exact dF hC b hok.2 hg hbe hbh he
   ·cases he
 | .block i b,e,e',h,h',x,hok,hg,hbe,hbh,he=>by
   simp only [codeOk] at hok;simp only [codeA] at he;split at he
   ·rename_i j e1 h1 h2;simp only [DH,DQ] at he;obtain ⟨_,rfl,rfl⟩:=he;exact dF hC b hok hg hbe hbh h2
   ·exact dF hC b hok hg hbe hbh he
 | .loop b,e,e',h,h',x,hok,hg,hbe,hbh,he=>by simp only [codeOk] at hok;simp only [codeA] at he;exact iter_bd hC (fun _ _ _ _ _ h1 h2 h3 h4=>dF hC b hok h1 h2 h3 h4) _ hg hbe hbh he
 | .exit _,e,e',h,h',x,_,_,hbe,hbh,he=>by simp only [codeA,DH,DQ] at he;obtain ⟨_,rfl,rfl⟩:=he;exact ⟨hbe,hbh⟩
 | .scope b,e,e',h,h',x,hok,hg,hbe,hbh,he=>by simp only [codeOk] at hok;simp only [codeA] at he;exact dF hC b hok hg hbe hbh he
 | .label _,e,e',h,h',x,_,_,hbe,hbh,he=>by simp only [codeA,DH,DQ] at he;obtain ⟨_,rfl,rfl⟩:=he;exact ⟨hbe,hbh⟩
 | .ret,e,e',h,h',x,_,_,hbe,hbh,he=>by simp only [codeA,DH,DQ] at he;obtain ⟨_,rfl,rfl⟩:=he;exact ⟨hbe,hbh⟩
 | .goto _,e,e',h,h',x,_,_,_,_,he=>by cases he
 | .rangeFunc g params assign body,e,e',h,h',x,hok,hg,hbe,hbh,he=>by
   simp only [codeOk] at hok;obtain ⟨i,first,captured,v,h2,hev,hi,hc,hl⟩:=lZ he;obtain ⟨st,pend,tmps,ps,as,bo,hgl,_,_,rfl,rfl⟩:=gT hl;have hv:=vw hg hbe hok;rw [hev] at hv;obtain ⟨lf⟩:=first
   obtain ⟨lc⟩:=captured;simp only [bR,DN] at hv;have hal:aA (h.bj (.obj (.loop .ready none e' params.toList assign body))):=hbh.allocO (bW (F8 _) hbe);obtain ⟨h3,h4⟩:=hC.bd _ _ _ _ _ hc (bT (bT (bW (by simp) hv.2.1) (by simp [cy,bR,bdF])) (bW (by simp) hv.2.2)) hal;have hgr:=hC.grow _ _ _ _ _ hc;have hob:=h4.obj _ _ hgl;refine ⟨bW ?_ hbe,h4.setO (h2.bk hgl) hgl hob⟩;have:=hgr.1;simp only [ae.fQ] at this;simp only [ae.kq];omega
 | .refuse _,e,e',h,h',x,_,_,_,_,he=>by cases he
def dw (rs:List Nat):List Deferred:=rs.map fun r=>{ target := .collected r,args := #[] }
structure kF (s:Nat) (μ:Mu) (h:ae) (w:World) (rs:List Nat):Prop where
 dup:rs.Nodup
 at_ : ∀ r∈rs,s<=r/\w.heap[r]? = some (.deferred (some [])) /\ ¬AA μ h r
def kF.step {s:Nat} {μ μ':Mu} {h h':ae} {w w':World} {rs:List Nat} (m:kF s μ h w rs) (st:ca μ h w μ' h' w'):kF s μ' h' w' rs:=by
 refine ⟨m.dup,fun r hr => ?_⟩;obtain ⟨h1,h2,h3⟩:=m.at_ r hr;have hlt:=(DZ.1 h2).1;refine ⟨h1,by rw [st.same r hlt h3];exact h2,fun ho => ?_⟩;rcases st.own r ho with h4|h4
 ·exact h3 h4
 ·omega
def RoOk (ro:Option Nat) (w:World):Prop := ∀ l,ro=some l -> ∃ r,w.heap[l]? = some (Obj.loop r)
def RoOk.step {ro:Option Nat} {μ μ':Mu} {h h':ae} {w w':World} (m:RoOk ro w) (st:ca μ h w μ' h' w'):RoOk ro w':=fun l hl=>by obtain ⟨r,hr⟩:=m l hl;exact st.loops l r hr
def qn (s:Nat) (μ:Mu) (h:ae) (w:World) (e':aQ) (h':ae) (a':Act) (w':World):Prop:=
 ∃ μ' rs,cn μ' h' w'/\ca μ h w μ' h' w'/\gU (dw rs) μ' e' a'/\kF s μ' h' w' rs
def xq (P:Program) (C:ah) (c:Code):Prop:=
 ∀ (ro:Option Nat) (nd s:Nat) (rs:List Nat) (e e':aQ) (h h':ae) (x:Ex) (μ:Mu) (a:Act) (w:World) (Q:Exit->Act->World->Prop),codeA P C c e h=some (x,e',h')->P.globals.size<=h.n0->cy h.next e=true->aA h->cn μ h w->eX μ h h' ->
   gU (dw rs) μ e a->kF s μ h w rs->s<=w.heap.size->RoOk ro w->(∀ a' w',qn s μ h w e' h' a' w'->Q (zG x) a' w')->c.wpIn (Fr ro) nd P Q a w
def qn.trans {s:Nat} {μ μ1:Mu} {h h1 h2:ae} {w w1 w2:World} {e2:aQ} {a2:Act} (st:ca μ h w μ1 h1 w1) (b:qn s μ1 h1 w1 e2 h2 a2 w2):qn s μ h w e2 h2 a2 w2:=by obtain ⟨μ2,rs,hS,hSt,hr,hm⟩:=b;exact ⟨μ2,rs,hS,st.trans hSt,hr,hm⟩
def sx.m {s:Nat} {rs:List Nat} {μ:Mu} {h h':ae} {w w':World} {e':aQ} {a':Act} (m:kF s μ h w rs) (b:sx (dw rs) μ h w e' h' a' w'):qn s μ h w e' h' a' w':=by obtain ⟨μ',hS,hSt,hr⟩:=b;exact ⟨μ',rs,hS,hSt,hr,m.step hSt⟩
def oO {F:Fence} {n:Nat} {Q:Exit->Act->World->Prop} {c:Code} (k:Nat) (a:Act) (w:World):Code.roundsIn F n P c Q (k+1) a w=c.wpIn F n P (Exit.then (Code.roundsIn F n P c Q k) Q) a w:=rfl
def BK (hC:aZ P C) {b:Code} (hb:xq P C b)
  (hbd : ∀ e h x e' h',P.globals.size<=h.n0->cy h.next e=true->aA h->codeA P C b e h=some (x,e',h')->cy h'.next e'=true/\aA h') : ∀ (n:Nat) {e e':aQ} {h h':ae} {x:Ex} {ro:Option Nat} {nd s:Nat} {rs:List Nat} {μ:Mu} {a:Act} {w:World} {Q:Exit->Act->World->Prop},iter (codeA P C b) n e h=some (x,e',h') ->
  P.globals.size<=h.n0->cy h.next e=true->aA h->cn μ h w->eX μ h h'->gU (dw rs) μ e a->kF s μ h w rs->s<=w.heap.size->RoOk ro w->(∀ a' w',qn s μ h w e' h' a' w'->Q (zG x) a' w')->Code.roundsIn (Fr ro) nd P b Q n a w
 | 0,_,_,_,_,_,_,_,_,_,_,_,_,_,he,_,_,_,_,_,_,_,_,_,_=>by cases he
 |n+1,e,e',h,h',x,ro,nd,s,rs,μ,a,w,Q,he,hg,hbe,hbh,S,hf,r,hmk,hsz,hro,hQ=>by
  rw [oO];simp only [iter] at he;split at he
  ·rename_i e1 h1 h2;have hgr:=bN hC b h2;have hgr2:=uL (fun _ _ _ _ _ h=>bN hC b h) _ he;refine hb _ _ s rs _ _ _ _ _ _ _ _ _ h2 hg hbe hbh S (hf.first hgr2.1) r hmk hsz hro ?_;rintro a1 w1 ⟨μ1,rs1,hS,hSt,hr,hmk1⟩;exact BK hC hb hbd n he (by rw [hgr.2.1];exact hg) (hbd _ _ _ _ _ hg hbe hbh h2).1 (hbd _ _ _ _ _ hg hbe hbh h2).2 hS (hf.mu hSt) hr hmk1 (ED hsz hSt.size) (hro.step hSt) (fun a' w' hb'=>hQ a' w' (hb'.trans hSt))
  ·rename_i hne;refine hb _ _ s rs _ _ _ _ _ _ _ _ _ he hg hbe hbh S hf r hmk hsz hro ?_;intro a1 w1 hb1;have hq:=hQ a1 w1 hb1;cases x with
   |normal=>exact absurd he (hne _ _)
   |ret=>exact hq
   |exit i=>exact hq
def mG {w:World} {l₀:Nat} {r₀:Loop} (fn:FuncId) (tmps:Array Vl) (ps:Array Tmp) (assign body:Code) (hr:w.heap[l₀]? = some (Obj.loop r₀)) :
  (Instr.enterLoop fn tmps ps assign body (some l₀)).run P w =
   .ok (w.heap.size,[]) (w.alloc (.loop { state := .ready,pending:=none,fn,tmps,params:=ps,assign,body,defers:=r₀.defers })):=by
 unfold Instr.enterLoop;simp only [bind_assoc,pure_bind,Sem.run_bind,run_getLoop hr,run_newObj_alloc,Result.andThen,Sem.run_pure]
section scope
variable {b:Frame} {a:Act} {k:List Item} {cs:List Frame} {w:World}
def iB {c:Code}:step P (lone (b.atR a (.code (.scope c)::k)) cs w) = .next (lone (b.atR a (.code c :: .inScope c::k)) cs w):=
 step_lone_go (by simp [stepG,stepG.exec,Frame.atR])
def Af {c:Code}:step P (lone (b.atR a (.inScope c::k)) cs w) = .next (lone (b.atR a k) cs w):=
 step_lone_go (by simp [stepG,stepG.exec,Frame.atR])
def jR {F:Fence} {n:Nat} {Q:Exit->Act->World->Prop} {c:Code} (h:c.wpIn F n P (Exit.noGoto Q) a w):(Code.scope c).wpIn F n P Q a w:=by
 intro b k cs hro hb hr;have h0:(lone (b.atR a (.code (.scope c)::k)) cs w).fenced P F:=fenced_calm hb hr rfl;obtain ⟨e,a₁,w₁,hq,harr⟩:=h b (.inScope c::k) cs hro hb hr;cases e with
 |normal=>exact ⟨.normal,a₁,w₁,hq,.head h0 iB (StepsIn.trans harr (.one (fenced_calm hb hr rfl) Af))⟩
 |exit id=>
  have hx:exitTo id (.inScope c::k)=exitTo id k:=by simp [exitTo]
  exact ⟨.exit id,a₁,w₁,hq,fun k' hk => .head h0 iB (harr.1 k' (by rw [hx];exact hk)),
   fun hr' hk=>let ⟨k₁,h1,h2⟩:=harr.2 hr' (by rw [hx];exact hk);⟨k₁,h1,.head h0 iB h2⟩⟩
 |goto l=>exact hq.elim
 |ret=>exact ⟨_,a₁,w₁,hq,.of_steps (.one h0 iB) harr⟩
 |panic ch=>exact ⟨_,a₁,w₁,hq,.of_steps (.one h0 iB) harr⟩
 |outgrown=>exact ⟨_,a₁,w₁,hq,.of_steps (.one h0 iB) harr⟩
end scope
def xU {F:Fence} {n:Nat} {Q:Exit->Act->World->Prop} {a:Act} {w:World} {x:Ex} (h:Q (zG x) a w):(BR x).wpIn F n P Q a w:=by
 cases x with
 |normal=>exact wpIn_skip h
 |ret=>exact wpIn_ret h
 |exit i=>exact wpIn_exit h
def range_good (hC:aZ P C) {g:Operand} {params:Array Tmp} {assign body:Code} (hok:codeOk P (.rangeFunc g params assign body)=true):xq P C (.rangeFunc g params assign body):=by
 intro ro nd s rs e e' h h' x μ a w Q he hg hbe hbh S hf r hmk hsz hro hQ;simp only [codeOk] at hok;obtain ⟨i,first,captured,v,h2,hev,⟨fn0,hfn,hname,hbody⟩,hc,hl⟩:=lZ he;have hi:i<P.funcs.size:=(DZ.1 hfn).1;obtain ⟨st,pend,tmps,ps,as,bo,hgl,hst,rfl,rfl,rfl⟩:=gT hl;have hgr:=hC.grow _ _ _ _ _ hc;have hgr1:h.next+1<=h2.next:=by have:=hgr.1;simpa using this
 have hbv:=vw hg hbe hok;have hal:aA (h.bj (.obj (.loop .ready none e' params.toList assign body))):=hbh.allocO (bW (F8 _) hbe);have hrv:=ry S hg r hok;rw [hev] at hbv hrv;obtain ⟨fg,first',captured',hfe,hfg,hr1,hr2⟩:=hrv.mS;cases hfg;have hba:cy (h.bj (.obj (.loop .ready none e' params.toList assign body))).next (first.toList ++ [.func (.yield h.next) #[] #[]]++captured.toList)=true:=by
  obtain ⟨lf⟩:=first
  obtain ⟨lc⟩:=captured;simp only [bR,DN] at hbv;exact bT (bT (bW (by simp) hbv.2.1) (by simp [cy,bR,bdF])) (bW (by simp) hbv.2.2)
 have hfree1:eX μ h (h.bj (.obj (.loop .ready none e' params.toList assign body))):=fun b h1 h3=>hf b h1 (by simp at h3;simp only [ae.kq];omega);have main : ∀ (fn:FuncId) (l:Nat) (rs':List Nat) (w1:World) (ob:Loop),(Instr.enterLoop fn a.tmps params assign body ro).run P w = .ok (l,dw rs') w1->w.heap.size<=l->w1.heap.size=l+1 ->
   (∀ C,C<w.heap.size->w1.heap[C]? = w.heap[C]?)->w1.heap[l]? = some (Obj.loop ob)->w1.os=w.os->w1.tape=w.tape->w1.output=w.output->w.drawn<=w1.drawn ->
   ob.state = .ready->ob.pending=none->ob.tmps=a.tmps->ob.params=params->ob.assign=assign->ob.body=body ->
   (∀ r∈rs',w.heap.size<=r/\r≠l/\w1.heap[r]? = some (.deferred (some [])))->rs'.Nodup ->
   ∃ (l:Nat) (mark:List Deferred) (w₁:World) (d:Deferred) (w₁':World) (f:FuncId) (args:Array Vl) (w₂:World),
   (Instr.enterLoop fn a.tmps params assign body (Fr ro).round).run P w = .ok (l,mark) w₁ /\
   (resolve a.eval (rangeCall g l) 0).run P w₁ = .ok d w₁' /\
   (∀ f',Target.leads P w₁' d.target d.args=some f'->(Fr ro).fn f') /\
   (invoke d.target d.args).run P w₁' = .ok (.enter f args) w₂ /\
   ((Fr ro).depth.isSome=true->1<=nd) /\
   CallsIn (Fr ro) (nd-1) P f args w₂ (rangePost (Fr ro) nd P l Q { a with defers:=mark++a.defers }):=by
  intro fn l rs' w1 ob hent hl1 hl2 hold hnew ho ht hp hdw q1 q2 q3 q4 q5 q6 hrs hnd;obtain ⟨S1,St1⟩:=S.allocO (o := .loop .ready none e' params.toList assign body) hfree1 (ob := .loop ob) (w1:=w1) (B:=l) ho ht hp hl1 hl2 hold hnew
   ⟨q1,by rw [q2];rfl,by rw [q3];exact r.1.mono (Mu.iT (hfree1 _ (DO _) (by simp))),by rw [q4],q5,q6⟩ hdw
  have hmono:=Mu.iT (L:=⟨l,0,0,0⟩) (hfree1 _ (DO _) (by simp));have hyl:aD (μ.put h.next ⟨l,0,0,0⟩) (.func (.yield h.next) #[] #[]) (.func (.yield l) #[] #[]) := .func ⟨_,Mu.cf _ _ _,rfl⟩ rfl (by simp) rfl (by simp);have hall:=((hr1.mono hmono).append (aU.cons hyl (aU.nil _))).append (hr2.mono hmono);have hfree2:eX (μ.put h.next ⟨l,0,0,0⟩) (h.bj (.obj (.loop .ready none e' params.toList assign body))) h2:=(eX.mu (h'':=h2) (fun b h1 h3=>hf b h1 h3) St1)
  have hcalls:=(hC.run _ _ _ _ _ hc hi hba hal (by simpa using hg) _ w1 _ S1 hfree2 hall).fe hfn hname hbody;refine ⟨l,dw rs',w1,{ target := .fn (.func i) captured',args:=first' ++ #[.func (.yield l) #[] #[]] },w1,i,_,w1,hent,?_,fun _ _=>trivial,?_,(fun h=>by cases h),(tQ (r:=ro) (n:=nd-1) hcalls).mono ?_⟩
  ·unfold resolve;simp only [hfe,Deferred.ofValue,List.map_toArray,ES,HH,show a.eval (.const (.func (.yield l) #[] #[])) = .func (.yield l) #[] #[] from rfl];rfl
  ·simp only [invoke,callFunc,Sem.run_bind,run_program,Result.andThen_ok,hfn,hname,hbody,DJ,D3,Sem.run_pure]
   congr 2
   apply HR;simp
  ·rintro en w3 ⟨μ3,v3,rfl,S3,St3,hv3⟩;have hμ3:μ3 h.next=some ⟨l,0,0,0⟩:=St3.mono hfree2 _ _ (Mu.cf _ _ _);obtain ⟨L,ob3,g1,g2,g3,g4,g5⟩:=S3.obj h.next _ (h2.bk hgl) hgl;rw [hμ3] at g1;cases g1;cases ob3 with
   |loop r3=>
    obtain ⟨k1,k2,k3,k4,k5,k6⟩:=g3;have hend:(Instr.endLoop l).run P w3 = .ok r3.pending (w3.putObj l (.loop { r3 with state := .exhausted })):=run_endLoop g2 (by rw [k1];exact hst);refine ⟨r3.pending,_,hend,?_⟩;obtain ⟨S4,St4⟩:=S3.setO (o' := .loop .exhausted pend tmps ps as bo) (ob' := .loop { r3 with state := .exhausted }) hgl hμ3 ⟨rfl,k2,k3,k4,k5,k6⟩;have StA:=(St1.trans St3).trans St4;have hq:Q (zG (pend.getD .normal)) { a with defers:=dw rs'++a.defers } (w3.putObj l (.loop { r3 with state := .exhausted })):=by
     refine hQ _ _ ⟨μ3,rs'++rs,S4,StA,⟨?_,?_⟩,?_⟩
     ·exact r.1.mono (StA.mono hf)
     ·rw [r.2];simp [dw]
     ·have hm1:=hmk.step StA;have hnew2 : ∀ r∈rs',¬AA μ h r:=by rintro r hr ⟨b,k,L,o1,o2,o3,o4⟩;obtain ⟨L2,ob2,p1,p2,p3⟩:=S.place o1 o2;rw [p1] at o3;cases o3;have:=(DZ.1 p2).1;have:=(hrs r hr).1;omega
      have own1 : ∀ r∈rs',¬AA (μ.put h.next ⟨l,0,0,0⟩) (h.bj (.obj (.loop .ready none e' params.toList assign body))) r:=by
       rintro r hr ⟨b,k,L,o1,o2,o3,o4⟩;rw [h.bE] at o2;by_cases eb:b=h.next
       ·subst eb;rw [Mu.cf] at o3;cases o3;exact (hrs r hr).2.1 o4.symm
       ·rw [DU eb] at o2;rw [Mu.cK _ _ eb] at o3;exact hnew2 r hr ⟨b,k,L,o1,o2,o3,o4⟩
      have mk1:kF s (μ.put h.next ⟨l,0,0,0⟩) (h.bj (.obj (.loop .ready none e' params.toList assign body))) w1 rs':=
       ⟨hnd,fun r hr=>⟨ED hsz (hrs r hr).1,(hrs r hr).2.2,own1 r hr⟩⟩
      have mk2:=mk1.step (St3.trans St4);refine ⟨?_,fun r hr => ?_⟩
      ·rw [HP];refine ⟨hnd,hmk.dup,fun x hx y hy e => ?_⟩;have h5:=(hrs x hx).1;have h6:=(DZ.1 (hmk.at_ y hy).2.1).1;omega
      ·rcases EF.1 hr with h5|h5
       ·exact mk2.at_ r h5
       ·exact hm1.at_ r h5
    generalize w3.putObj l (.loop { r3 with state := .exhausted })=W at hq |-;generalize r3.pending=q at k2 |-;subst k2;cases pend with
    |none=>exact hq
    |some y=>exact xU hq
   |_=>exact g3.elim
 refine wpIn_rangeFunc fun fn _ => ?_;cases ro with
 |none=>
  refine main fn (w.heap.size+1) [w.heap.size] _ _ (run_enterLoop_outer fn a.tmps params assign body) (F8 _) (by simp) ?_ (by have:=World.alloc_heap_new (w.alloc (.deferred (some []))) (.loop { state := .ready,pending:=none,fn,tmps:=a.tmps,params,assign,body,defers:=w.heap.size });simpa using this) rfl rfl rfl (DO _) rfl rfl rfl rfl rfl rfl ?_ (by simp)
  ·intro C hC;rw [dh _ _ _ (by simp;omega),dh _ _ _ hC]
  ·intro r hr;rw [FI.1 hr];refine ⟨DO _,by omega,?_⟩;rw [dh _ _ _ (by simp)];exact World.alloc_heap_new w _
 |some l₀=>
  obtain ⟨r₀,hr₀⟩:=hro l₀ rfl;exact main fn w.heap.size [] _ _ (mG fn a.tmps params assign body hr₀) (DO _) (by simp) (fun C hC=>dh _ _ _ hC) (World.alloc_heap_new w _) rfl rfl rfl (DO _) rfl rfl rfl rfl rfl rfl (by simp) (by simp)
def di (hC:aZ P C) (hm:P.follows .mixedOrders=true) : ∀ (c:Code),codeOk P c=true->xq P C c
 | .skip,_=>by intro ro nd s rs e e' h h' x μ a w Q he hg hbe hbh S hf r hmk hsz hro hQ;simp only [codeA,DH,DQ] at he;obtain ⟨rfl,rfl,rfl⟩:=he;exact wpIn_skip (hQ a w ⟨μ,rs,S,.bQ,r,hmk⟩)
 | .region id ops d,hok=>by
   intro ro nd s rs e e' h h' x μ a w Q he hg hbe hbh S hf r hmk hsz hro hQ;simp only [codeOk] at hok;simp only [codeA] at he;split at he
   ·rename_i e1 h1 h2;cases he;cases d with
    |true=>exact lK hC hm hok h2 hg hbe hbh S hf r (fun a' w' hb=>hQ a' w' (hb.m hmk))
    |false=>exact uo hC hok (by simpa [regionA] using h2) hg hbe hbh S hf r (fun a' w' hb=>hQ a' w' (hb.m hmk))
   ·cases he
 | .seq b c,hok=>by
   intro ro nd s rs e e' h h' x μ a w Q he hg hbe hbh S hf r hmk hsz hro hQ;simp only [codeOk,DN] at hok;simp only [codeA] at he;refine wpIn_seq ?_;split at he
   ·rename_i e1 h1 h2;have hgr:=bN hC b h2;have hgr2:=bN hC c he;refine di hC hm b hok.1 _ _ s rs _ _ _ _ _ _ _ _ _ h2 hg hbe hbh S (hf.first hgr2.1) r hmk hsz hro ?_;rintro a1 w1 ⟨μ1,rs1,hS,hSt,hr,hmk1⟩;exact di hC hm c hok.2 _ _ s rs1 _ _ _ _ _ _ _ _ _ he (by rw [hgr.2.1];exact hg) (dF hC b hok.1 hg hbe hbh h2).1 (dF hC b hok.1 hg hbe hbh h2).2 hS (hf.mu hSt) hr hmk1 (ED hsz hSt.size) (hro.step hSt) (fun a' w' hb'=>hQ a' w' (hb'.trans hSt))
   ·rename_i hne;refine di hC hm b hok.1 _ _ s rs _ _ _ _ _ _ _ _ _ he hg hbe hbh S hf r hmk hsz hro ?_;intro a1 w1 hb1;have hq:=hQ a1 w1 hb1;cases x with
    |normal=>exact absurd he (hne _ _)
    |ret=>exact hq
    |exit i=>exact hq
 | .cond c x y,hok=>by
   intro ro nd s rs e e' h h' ex μ a w Q he hg hbe hbh S hf r hmk hsz hro hQ;simp only [codeOk,DN] at hok;simp only [codeA] at he;have hv:=ry S hg r hok.1.1;split at he
   ·rename_i h1;rw [h1] at hv;exact wpIn_cond_true hv.bool (di hC hm x hok.1.2 _ _ s rs _ _ _ _ _ _ _ _ _ he hg hbe hbh S hf r hmk hsz hro hQ)
   ·rename_i h1;rw [h1] at hv;exact wpIn_cond_false hv.bool (di hC hm y hok.2 _ _ s rs _ _ _ _ _ _ _ _ _ he hg hbe hbh S hf r hmk hsz hro hQ)
   ·cases he
 | .block id b,hok=>by
   intro ro nd s rs e e' h h' x μ a w Q he hg hbe hbh S hf r hmk hsz hro hQ;simp only [codeOk] at hok;simp only [codeA] at he;refine wpIn_block ?_;split at he
   ·rename_i j e1 h1 h2;simp only [DH,DQ] at he;obtain ⟨rfl,rfl,rfl⟩:=he;refine di hC hm b hok _ _ s rs _ _ _ _ _ _ _ _ _ h2 hg hbe hbh S hf r hmk hsz hro ?_;intro a' w' hb';have hq:=hQ a' w' hb';simp only [zG,Exit.inBlock];by_cases hj:j=id
    ·rw [DR hj] at hq |-;exact hq
    ·rw [DU hj] at hq |-;exact hq
   ·rename_i hne;refine di hC hm b hok _ _ s rs _ _ _ _ _ _ _ _ _ he hg hbe hbh S hf r hmk hsz hro ?_;intro a' w' hb';have hq:=hQ a' w' hb';cases x with
    |normal=>exact hq
    |ret=>exact hq
    |exit i=>exact absurd he (hne _ _ _)
 | .loop b,hok=>by intro ro nd s rs e e' h h' x μ a w Q he hg hbe hbh S hf r hmk hsz hro hQ;simp only [codeOk] at hok;simp only [codeA] at he;exact wpIn_loop_rounds _ (BK hC (di hC hm b hok) (fun _ _ _ _ _ h1 h2 h3 h4=>dF hC b hok h1 h2 h3 h4) _ he hg hbe hbh S hf r hmk hsz hro hQ)
 | .exit i,_=>by intro ro nd s rs e e' h h' x μ a w Q he hg hbe hbh S hf r hmk hsz hro hQ;simp only [codeA,DH,DQ] at he;obtain ⟨rfl,rfl,rfl⟩:=he;exact wpIn_exit (hQ a w ⟨μ,rs,S,.bQ,r,hmk⟩)
 | .scope b,hok=>by intro ro nd s rs e e' h h' x μ a w Q he hg hbe hbh S hf r hmk hsz hro hQ;simp only [codeOk] at hok;simp only [codeA] at he;refine jR (di hC hm b hok _ _ s rs _ _ _ _ _ _ _ _ _ he hg hbe hbh S hf r hmk hsz hro ?_);intro a' w' hb';have hq:=hQ a' w' hb';cases x<;>exact hq
 | .label _,_=>by intro ro nd s rs e e' h h' x μ a w Q he hg hbe hbh S hf r hmk hsz hro hQ;simp only [codeA,DH,DQ] at he;obtain ⟨rfl,rfl,rfl⟩:=he;exact wpIn_label (hQ a w ⟨μ,rs,S,.bQ,r,hmk⟩)
 | .ret,_=>by intro ro nd s rs e e' h h' x μ a w Q he hg hbe hbh S hf r hmk hsz hro hQ;simp only [codeA,DH,DQ] at he;obtain ⟨rfl,rfl,rfl⟩:=he;exact wpIn_ret (hQ a w ⟨μ,rs,S,.bQ,r,hmk⟩)
 | .goto _,hok=>by simp [codeOk] at hok
 | .rangeFunc g params assign body,hok=>range_good hC hok
 | .refuse _,hok=>by simp [codeOk] at hok
def gY {rs:List ResultVar} {e:aQ} {h h':ae} {v:Vl} (he:resultsA P rs e h=some (v,h')):h'=h:=by
 unfold resultsA at he;split at he
 ·simp only [DT,DQ] at he;obtain ⟨_,_,_,rfl⟩:=he;rfl
 ·simp only [DT,DQ] at he;obtain ⟨_,_,_,rfl⟩:=he;rfl
def resV (tmps:Array Vl):ResultVar->Sem Vl
 | .tmp t=>pure (tmps.getD t undef)
 | .cell b t=>do loadVar t (<-asAddr (tmps.getD b undef))
def zE (fn:Func) (tmps:Array Vl):results fn tmps=(do let vs <-fn.results.mapM (resV tmps);pure (if h:vs.size=1 then vs[0] else .tuple vs)):=rfl
def Am {D:List Deferred} {μ:Mu} {h:ae} {w:World} {e:aQ} {a:Act} (S:cn μ h w) (r:gU D μ e a) {x:ResultVar} {v:Vl} (hv:dy P x e h=some v) :
  ∃ v',(resV a.tmps x).run P w = .ok v' w/\aD μ v v':=by
 cases x with
 |tmp t=>
  simp only [dy,DH] at hv;subst hv;refine ⟨_,rfl,?_⟩;have:=r.1.getD t;simpa using this
 |cell b t=>
  simp only [dy,DT] at hv;obtain ⟨⟨v1,h1⟩,hl,rfl⟩:=hv;have hr:aD μ (e.getD b undef) (a.tmps.getD b undef):=by have:=r.1.getD b;simpa using this
  obtain ⟨_,r',hrun,hv'⟩:=ld_sound S hr hl;refine ⟨r',?_,hv'⟩;simp only [resV,Instr.loadAt,Sem.run_bind] at hrun |-;cases hx:a.tmps.getD b undef with
  |pointer p=>
   rw [hx] at hrun;cases p with
   |none=>simp [Instr.sureAddr] at hrun
   |some q=>simpa [Instr.sureAddr,asAddr] using hrun
  |_=>rw [hx] at hrun;simp [Instr.sureAddr] at hrun
def mapM_rel {D:List Deferred} {μ:Mu} {h:ae} {w:World} {e:aQ} {a:Act} (S:cn μ h w) (r:gU D μ e a) : ∀ {rs:List ResultVar} {vs:List Vl},rs.mapM (fun r=>dy P r e h)=some vs ->
  ∃ vs',(rs.mapM (resV a.tmps)).run P w = .ok vs' w/\aU μ vs vs'
 | [],vs,hv=>by simp at hv;subst hv;exact ⟨[],by simp,aU.nil μ⟩
 |x::rs,vs,hv=>by rw [FW] at hv;simp only [bind,D4,pure,DH] at hv;obtain ⟨v,hv1,vs1,hv2,rfl⟩:=hv;obtain ⟨v',h1,h2⟩:=Am S r hv1;obtain ⟨vs',h3,h4⟩:=mapM_rel S r hv2;refine ⟨v'::vs',?_,aU.cons h2 h4⟩;rw [FW,Sem.run_bind];rw [h1];simp only [Result.andThen_ok,Sem.run_bind];rw [h3];simp
def vo {α β:Type} {f:α->Option β} : ∀ {l:List α} {r:List β},l.mapM f=some r->l.length=r.length
 | [],r,h=>by simp at h;subst h;rfl
 |x::l,r,h=>by rw [FW] at h;simp only [bind,D4,pure,DH] at h;obtain ⟨a,_,r1,h2,rfl⟩:=h;simp [vo h2]
def oC {D:List Deferred} {μ:Mu} {h h':ae} {w:World} {e:aQ} {a:Act} (S:cn μ h w) (r:gU D μ e a) {fn:Func} {v:Vl} (hv:resultsA P fn.results.toList e h=some (v,h')) :
  ∃ v',(results fn a.tmps).run P w = .ok v' w/\aD μ v v':=by
 have main : ∀ {vs:List Vl},fn.results.toList.mapM (fun r=>dy P r e h)=some vs -> ∃ vs',(fn.results.mapM (resV a.tmps)).run P w = .ok vs'.toArray w/\aU μ vs vs':=by intro vs hvs;obtain ⟨vs',h1,h2⟩:=mapM_rel S r hvs;refine ⟨vs',?_,h2⟩;rw [Array.mapM_eq_mapM_toList,Sem.run_map,h1];rfl
 unfold resultsA at hv;split at hv
 ·rename_i x hx;simp only [DT,DQ] at hv;obtain ⟨v1,hv1,rfl,rfl⟩:=hv;obtain ⟨vs',h1,h2⟩:=main (vs := [v1]) (by rw [hx];simp [hv1]);have hl:=h2.1
  match vs',hl with
  | [v'],_=>
    refine ⟨v',?_,h2.head⟩;rw [zE,Sem.run_bind];rw [h1];simp
 ·rename_i hne;simp only [DT,DQ] at hv;obtain ⟨vs,hvs,rfl,rfl⟩:=hv;obtain ⟨vs',h1,h2⟩:=main hvs;refine ⟨.tuple vs'.toArray,?_,.cN h2⟩;rw [zE,Sem.run_bind];rw [h1];simp only [Result.andThen_ok,Sem.run_pure];have hlen:vs'.length≠1:=by rw [<-h2.1,<-vo hvs];intro h1';obtain ⟨x,hx⟩:=List.length_eq_one_iff.1 h1';exact hne x hx
  rw [dif_neg (by simpa using hlen)]
end code
def aa {α:Type} (r:ba) (k:Vl->ae->Option α):Option α:=
 match r with
 |some (v,h)=>k v h
 |none=>none
def au (g:Bool) (o:ba) (h:ae):ba:=
 match g with
 |true=>o
 |false=>some (undef,h)
def opsK {α:Type} (P:Program) (C:ah) (ops:Array Oper):List Oper->aQ->ae->(aQ->ae->Option α)->Option α
 | [],e,h,k=>k e h
 |o::rest,e,h,k=>
  match o.guard with
  |none=>aa (opA P C o (ev e) h) fun v h'=>opsK P C ops rest (putD e o.dst v) h' k
  |some (j,want)=>aa (au (iM ops e j==some want) (opA P C o (ev e) h) h) fun v h'=>opsK P C ops rest (putD e o.dst v) h' k
def tu {α:Type} (P:Program) (C:ah) (ops:Array Oper) : ∀ (l:List Oper) (e:aQ) (h:ae) (k:aQ->ae->Option α),
  opsK P C ops l e h k=match opsA P C ops l e h with|some (e',h')=>k e' h'|none=>none
 | [],e,h,k=>rfl
 |o::rest,e,h,k=>by
  unfold opsK opsA stepA iR aa;cases hg:o.guard with
  |none=>
   simp only [D8];cases opA P C o (ev e) h with
   |none=>rfl
   |some r=>exact tu P C ops rest _ _ k
  |some g=>
   obtain ⟨j,want⟩:=g;simp only;by_cases hy:(iM ops e j==some want)=true
   ·simp only [hy,D8,au];cases opA P C o (ev e) h with
    |none=>rfl
    |some r=>exact tu P C ops rest _ _ k
   ·rw [DU hy];rw [HV] at hy;simp only [hy,au];exact tu P C ops rest _ _ k
def dX {α:Type} {l:List α} {x:α} {i:Nat}:(x,i)∈l.zipIdx↔l[i]? = some x:=by
 constructor
 ·intro h;obtain ⟨j,hj⟩:=IA h;rw [IZ,DT] at hj;obtain ⟨z,hz,he⟩:=hj;simp only [DQ,DK] at he;obtain ⟨rfl,rfl⟩:=he;exact hz
 ·intro h;have:l.zipIdx[i]? = some (x,i):=by rw [IZ,h];simp
  exact EC this
def CM (P:Program) (ops:Array Oper) (l:List (Nat×Oper)):Bool:=
 let m:=gX ops
 l.zipIdx.all fun x => !(kindOf P x.1.2 == .read)||l.zipIdx.all fun y => !(hard P y.1.2 y.2 x.2)||fA m x.1.1 y.1.1||fA m y.1.1 x.1.1
def yI {P:Program} {C:ah} {ops:Array Oper} {l:List (Nat×Oper)} (ht:CM P ops l=true) (tr:List CG) (hE:ae):dynOk P C ops l tr hE=true:=by
 unfold dynOk;unfold CM at ht;simp only [DX,FF,FU,HG] at ht |-;intro x hx;by_cases hr:(kindOf P x.1.1.2 == .read&&x.1.2.sI)=true
 ·right;obtain ⟨⟨x1,t⟩,i⟩:=x;have hx1:(x1,i)∈l.zipIdx:=by rw [dX] at hx |-;exact (HN.1 hx).1
  intro y hy;have hy1:=E8.1 hy;left;rcases ht (x1,i) hx1 with h1|h1
  ·rw [h1] at hr;simp at hr
  ·rcases h1 y hy1.1 with (h2|h2)|h2
   ·rw [hy1.2] at h2;cases h2
   ·exact .inl h2
   ·exact .inr h2
 ·left;cases h1:(kindOf P x.1.1.2 == .read) with
  |false=>simp
  |true=>rw [h1] at hr;simpa using hr
def mU {P:Program} {C:ah} {ops:Array Oper} : ∀ (l:List (Nat×Oper)) (e:aQ) (h:ae),
  (traceA P C ops l e h).map (·.2)=opsA P C ops (l.map (·.2)) e h
 | [],e,h=>rfl
 | (i,o)::rest,e,h=>by
   simp only [traceA,ES,opsA,stepA];by_cases hw:iR ops o e=true
   ·rw [DR hw,DR hw];cases opA P C o (ev e) h with
    |none=>rfl
    |some r=>
     obtain ⟨v,h'⟩:=r;simp only;have:=mU (P:=P) (C:=C) (ops:=ops) rest (putD e o.dst v) h';rw [<-this];cases traceA P C ops rest (putD e o.dst v) h'<;>rfl
   ·rw [DU hw,DU hw];simp only;have:=mU (P:=P) (C:=C) (ops:=ops) rest (putD e o.dst undef) h;rw [<-this];cases traceA P C ops rest (putD e o.dst undef) h<;>rfl
def pn (P:Program) (ops:Array Oper):Bool:=sE P ops (late P ops)&&CM P ops (late P ops)
def pk (P:Program) (ops:Array Oper) (l:List (Nat×Oper)):List (Nat×Nat):=
 let m:=gX ops
 (l.zipIdx.filter fun x=>kindOf P x.1.2 == .read).flatMap fun x=>
   (l.zipIdx.filter fun y=>hard P y.1.2 y.2 x.2 && !(fA m x.1.1 y.1.1||fA m y.1.1 x.1.1)).map fun y=>(x.2,y.2)
def fP (sI:Bool) (r:ba) (v:Vl):Bool := !sI||same r v
def chkAt (P:Program) (C:ah) (l:List (Nat×Oper)) (tr:List CG) (hs:List ae) (x:Nat×Nat):Bool:=
 match l[x.1]?,tr[x.1]?,pj (tr.map (·.sI)) hs (madeIn P l x) (if x.2<x.1 then x.2 else x.2+1) with
 |some y,some t,some h=>fP t.sI (opA P C y.2 (ev t.e) h) t.v
 |some _,some t,none => !t.sI
 |_,_,_=>false
def ug (P:Program) (C:ah) (ops:Array Oper) (l:List (Nat×Oper)) (tr:List CG) (hEnd:ae):Bool:=
 (pk P ops l).foldr (fun x acc=>chkAt P C l tr (tr.map (·.h) ++ [hEnd]) x&&acc) true
def Bj {α:Type} (f:α->Bool) : ∀ l:List α,l.foldr (fun x acc=>f x&&acc) true=l.all f
 | []=>rfl
 |x::l=>by simp only [List.foldr_cons,List.all_cons,Bj f l]
def dynChk_eq {P:Program} {C:ah} {ops:Array Oper} {l:List (Nat×Oper)} {tr:List CG} {hEnd:ae} (hlen:tr.length=l.length):ug P C ops l tr hEnd=dynOk P C ops l tr hEnd:=by
 unfold ug dynOk;rw [Bj,Bool.eq_iff_iff];simp only [DX];have hz : ∀ (x:Nat×Oper) (t:CG) (i:Nat),((x,t),i)∈(l.zip tr).zipIdx↔l[i]? = some x/\tr[i]? = some t:=by intro x t i;rw [dX,HN]
 constructor
 ·rintro h ⟨⟨x,t⟩,i⟩ hx;obtain ⟨hx1,hx2⟩:=(hz x t i).1 hx;simp only [FF,FU,HG,DX];by_cases hr:(kindOf P x.2 == .read)=true
  ·by_cases hran:t.sI=true
   ·right;rintro ⟨y,j⟩ hy;rw [E8,dX] at hy;simp only at hy |-;by_cases hb:(fA (gX ops) x.1 y.1||fA (gX ops) y.1 x.1)=true
    ·left;simpa using hb
    ·right;have hp:(i,j)∈pk P ops l:=by unfold pk;simp only [GW,E8,EL];exact ⟨(x,i),⟨dX.2 hx1,hr⟩,(y,j),⟨dX.2 hy.1,by simp only [hy.2,E3];simpa using hb⟩,rfl⟩
     have:=h _ hp;unfold chkAt at this;simp only [hx1,hx2] at this;split at this
     ·rename_i h1 h2 h3;cases h1;cases h2;rw [h3];simpa [fP,hran] using this
     ·rename_i h1 h2 h3;cases h2;rw [hran] at this;simp at this
     ·simp at this
   ·left;right;simpa using hran
  ·left;left;simpa using hr
 ·rintro h ⟨i,j⟩ hp;unfold pk at hp;simp only [GW,E8,EL] at hp;obtain ⟨⟨x,i'⟩,⟨hx1,hr⟩,⟨y,j'⟩,⟨hy1,hy2⟩,he⟩:=hp;simp only [DQ] at he;obtain ⟨rfl,rfl⟩:=he;rw [dX] at hx1 hy1;simp only [DN] at hr hy2;have hi:i'<tr.length:=by rw [hlen];exact (D9.1 hx1).1
  have ht:tr[i']? = some tr[i']:=DL hi;have hq:=h ((x,tr[i']),i') ((hz _ _ _).2 ⟨hx1,ht⟩);simp only [hr,E3,FF,FU,DX] at hq;unfold chkAt;simp only [hx1,ht];have key:tr[i'].sI=true->(match pj (tr.map (·.sI)) (List.map (fun x=>x.h) tr ++ [hEnd]) (madeIn P l (i',j')) (if j'<i' then j' else j'+1) with|some h=>same (opA P C x.2 (ev tr[i'].e) h) tr[i'].v|none=>false)=true:=by
   intro hran;rcases hq with hq|hq
   ·rw [hran] at hq;cases hq
   ·have:=hq (y,j') (E8.2 ⟨dX.2 hy1,hy2.1⟩);simp only at this;have hy3:=hy2.2;rcases this with h1|h1
    ·have h1':(fA (gX ops) x.1 y.1||fA (gX ops) y.1 x.1)=true:=by simpa using h1
     simp [h1'] at hy3
    ·exact h1
  split
  ·rename_i h1 h2 h3;cases h1;cases h2;unfold fP;cases hran:tr[i'].sI with
   |false=>rfl
   |true=>have:=key hran;rw [h3] at this;simpa using this
  ·rename_i h1 h2 h3;cases h2;cases hran:tr[i'].sI with
   |false=>rfl
   |true=>have:=key hran;rw [h3] at this;simp at this
  ·rename_i h1 h2;cases hh:pj (tr.map (·.sI)) (List.map (fun x=>x.h) tr ++ [hEnd]) (madeIn P l (i',j')) (if j'<i' then j' else j'+1) with
   |some hp'=>exact absurd hh (h1 _ _ _ rfl rfl)
   |none=>exact absurd hh (h2 _ _ rfl rfl)
def traceK {α:Type} (P:Program) (C:ah) (ops:Array Oper):List (Nat×Oper)->aQ->ae->(List CG->aQ->ae->Option α)->Option α
 | [],e,h,k=>k [] e h
 |x::rest,e,h,k=>
  match x.2.guard with
  |none=>aa (opA P C x.2 (ev e) h) fun v h'=>traceK P C ops rest (putD e x.2.dst v) h' fun tr=>k (⟨e,h,v,true⟩::tr)
  |some (j,want)=>aa (au (iM ops e j==some want) (opA P C x.2 (ev e) h) h) fun v h'=>traceK P C ops rest (putD e x.2.dst v) h' fun tr=>k (⟨e,h,v,iM ops e j==some want⟩::tr)
def qy {α:Type} (P:Program) (C:ah) (ops:Array Oper) : ∀ (l:List (Nat×Oper)) (e:aQ) (h:ae) (k:List CG->aQ->ae->Option α),
  traceK P C ops l e h k=match traceA P C ops l e h with|some (tr,e',h')=>k tr e' h'|none=>none
 | [],e,h,k=>rfl
 | (i,o)::rest,e,h,k=>by
   unfold traceK traceA iR aa;simp only;cases hg:o.guard with
   |none=>
    simp only [D8];cases opA P C o (ev e) h with
    |none=>rfl
    |some r=>
     simp only;rw [qy P C ops rest];cases traceA P C ops rest (putD e o.dst r.1) r.2<;>rfl
   |some g=>
    obtain ⟨j,want⟩:=g;simp only;by_cases hy:(iM ops e j==some want)=true
    ·simp only [hy,D8,au];cases opA P C o (ev e) h with
     |none=>rfl
     |some r=>
      simp only;rw [qy P C ops rest];cases traceA P C ops rest (putD e o.dst r.1) r.2<;>rfl
    ·rw [DU hy];rw [HV] at hy;simp only [hy,au];rw [qy P C ops rest];cases traceA P C ops rest (putD e o.dst undef) h<;>rfl
def mf {P:Program} {C:ah} {ops:Array Oper} : ∀ {l:List (Nat×Oper)} {e e':aQ} {h h':ae} {tr:List CG},traceA P C ops l e h=some (tr,e',h')->tr.length=l.length
 | [],e,e',h,h',tr,ht=>by simp only [traceA,DH,DQ] at ht;rw [<-ht.1];rfl
 | (i,o)::rest,e,e',h,h',tr,ht=>by
   simp only [traceA] at ht;split at ht
   ·split at ht
    ·split at ht
     ·rename_i r h5;obtain ⟨e2,h2⟩:=r;simp only [DH,DQ] at ht;obtain ⟨rfl,_⟩:=ht;simp [mf h5]
     ·cases ht
    ·cases ht
   ·split at ht
    ·rename_i r h5;obtain ⟨e2,h2⟩:=r;simp only [DH,DQ] at ht;obtain ⟨rfl,_⟩:=ht;simp [mf h5]
    ·cases ht
def tc {α:Type} (P:Program) (C:ah) (ops:Array Oper) (draw:Bool) (e:aQ) (h:ae) (k:aQ->ae->Option α):Option α:=
 match draw with
 |false=>opsK P C ops ops.toList e h k
 |true=>
  match pn P ops with
  |true=>opsK P C ops ((late P ops).map (·.2)) e h k
  |false=>match sE P ops (late P ops) with
   |true=>traceK P C ops (late P ops) e h fun tr e' h'=>match ug P C ops (late P ops) tr h' with
    |true=>k e' h'
    |false=>none
   |false=>none
def regionK_eq {α:Type} (P:Program) (C:ah) (ops:Array Oper) (draw:Bool) (e:aQ) (h:ae) (k:aQ->ae->Option α) :
  tc P C ops draw e h k=match regionA P C ops draw e h with|some (e',h')=>k e' h'|none=>none:=by
 unfold tc;cases draw with
 |false=>simp only [tu,regionA];rfl
 |true=>
  simp only;cases hl:pn P ops with
  |false=>
   simp only [qy,regionA,D8];cases hs:sE P ops (late P ops) with
   |false=>rfl
   |true=>
    simp only [D8];cases ht:traceA P C ops (late P ops) e h with
    |none=>rfl
    |some r=>
     obtain ⟨tr,e',h'⟩:=r;simp only;rw [dynChk_eq (mf ht)];cases dynOk P C ops (late P ops) tr h'<;>rfl
  |true=>
   simp only [pn,DN] at hl;simp only [tu,regionA,D8,hl.1,<-mU];cases ht:traceA P C ops (late P ops) e h with
   |none=>rfl
   |some r=>
    obtain ⟨tr,e',h'⟩:=r;simp [yI hl.2]
def codeK {α:Type} (P:Program) (C:ah):Code->aQ->ae->(aQ->ae->Option α)->(aQ->ae->Option α)->(Nat->aQ->ae->Option α)->Option α
 | .skip,e,h,n,_,_=>n e h
 | .region _ ops draw,e,h,n,_,_=>tc P C ops draw e h n
 | .seq a b,e,h,n,r,x=>codeK P C a e h (fun e' h'=>codeK P C b e' h' n r x) r x
 | .cond c a b,e,h,n,r,x=>match ev e c with
   | .bool true=>codeK P C a e h n r x
   | .bool false=>codeK P C b e h n r x
   |_=>none
 | .block id b,e,h,n,r,x=>codeK P C b e h n r (fun i e' h'=>if i=id then n e' h' else x i e' h')
 | .loop b,e,h,_,r,x=>match iter (codeA P C b) aK e h with
   |some (.ret,e',h')=>r e' h'
   |some (.exit i,e',h')=>x i e' h'
   |_=>none
 | .exit i,e,h,_,_,x=>x i e h
 | .scope b,e,h,n,r,x=>codeK P C b e h n r x
 | .label _,e,h,n,_,_=>n e h
 | .ret,e,h,_,r,_=>r e h
 | .goto _,_,_,_,_,_=>none
 | .rangeFunc g ps a b,e,h,n,r,x=>match codeA P C (.rangeFunc g ps a b) e h with
   |some (.normal,e',h')=>n e' h'
   |some (.ret,e',h')=>r e' h'
   |some (.exit i,e',h')=>x i e' h'
   |none=>none
 | .refuse _,_,_,_,_,_=>none
def oi {step:aQ->ae->Option (Ex×aQ×ae)} : ∀ (n:Nat) (e:aQ) (h:ae) {e':aQ} {h':ae},iter step n e h≠some (.normal,e',h')
 | 0,_,_,_,_=>by simp [iter]
 |n+1,e,h,e',h'=>by
  unfold iter;split
  ·exact oi n _ _
  ·rename_i hne;exact hne e' h'
def endK {α:Type} (n r:aQ->ae->Option α) (x:Nat->aQ->ae->Option α):Option (Ex×aQ×ae)->Option α
 |some (.normal,e,h)=>n e h
 |some (.ret,e,h)=>r e h
 |some (.exit i,e,h)=>x i e h
 |none=>none
def jI {α:Type} (P:Program) (C:ah) : ∀ (c:Code) (e:aQ) (h:ae) (n r:aQ->ae->Option α) (x:Nat->aQ->ae->Option α),
  codeK P C c e h n r x=endK n r x (codeA P C c e h)
 | .skip,e,h,n,r,x=>rfl
 | .region id ops d,e,h,n,r,x=>by simp only [codeK,codeA,regionK_eq];cases regionA P C ops d e h<;>rfl
 | .seq a b,e,h,n,r,x=>by
   simp only [codeK,codeA];rw [jI P C a];cases ha:codeA P C a e h with
   |none=>rfl
   |some y=>
    obtain ⟨ex,e',h'⟩:=y;cases ex with
    |normal=>simp only [endK];exact jI P C b _ _ _ _ _
    |ret=>rfl
    |exit i=>rfl
 | .cond c a b,e,h,n,r,x=>by
   simp only [codeK,codeA];generalize ev e c=v;cases v with
   |bool t=>
    cases t with
    |true=>exact jI P C a _ _ _ _ _
    |false=>exact jI P C b _ _ _ _ _
   |_=>rfl
 | .block id b,e,h,n,r,x=>by
   simp only [codeK,codeA];rw [jI P C b];cases hb:codeA P C b e h with
   |none=>rfl
   |some y=>
    obtain ⟨ex,e',h'⟩:=y;cases ex with
    |normal=>rfl
    |ret=>rfl
    |exit i=>
     simp only [endK];by_cases hi:i=id
     ·simp [hi]
     ·simp [hi]
 | .loop b,e,h,n,r,x=>by
   simp only [codeK,codeA];cases hb:iter (codeA P C b) aK e h with
   |none=>rfl
   |some y=>
    obtain ⟨ex,e',h'⟩:=y;cases ex with
    |normal=>exact absurd hb (oi _ _ _)
    |ret=>rfl
    |exit i=>rfl
 | .exit i,e,h,n,r,x=>rfl
 | .scope b,e,h,n,r,x=>by simp only [codeK,codeA];exact jI P C b _ _ _ _ _
 | .label _,e,h,n,r,x=>rfl
 | .ret,e,h,n,r,x=>rfl
 | .goto _,e,h,n,r,x=>rfl
 | .rangeFunc g ps a b,e,h,n,r,x=>by
   simp only [codeK];cases codeA P C (.rangeFunc g ps a b) e h with
   |none=>rfl
   |some y=>obtain ⟨ex,e',h'⟩:=y;cases ex<;>rfl
 | .refuse _,e,h,n,r,x=>rfl
def aY (P:Program) (C:ah) (fn:Func) (args:List Vl) (h:ae):ba:=
 match fn.body with
 |none=>none
 |some c=>codeK P C c (args++List.replicate (fn.ntmps-args.length) undef) h (resultsA P fn.results.toList) (resultsA P fn.results.toList) (fun _ _ _=>none)
def nc (P:Program) (C:ah) (fn:Func) (args:List Vl) (h:ae):aY P C fn args h=bodyA P C fn args h:=by
 unfold aY bodyA;cases fn.body with
 |none=>rfl
 |some c=>
  simp only [jI];cases codeA P C c (args++List.replicate (fn.ntmps-args.length) undef) h with
  |none=>rfl
  |some y=>
   obtain ⟨ex,e',h'⟩:=y;cases ex<;>rfl
def roundK (P:Program) (C:ah) (b:Code) (e:aQ) (h:ae):Option (Ex×aQ×ae):=
 codeK P C b e h (fun e h=>some (.normal,e,h)) (fun e h=>some (.ret,e,h)) (fun i e h=>some (.exit i,e,h))
def roundK_eq (P:Program) (C:ah) (b:Code) (e:aQ) (h:ae):roundK P C b e h=codeA P C b e h:=by
 unfold roundK;rw [jI];cases codeA P C b e h with
 |none=>rfl
 |some y=>
  obtain ⟨ex,e',h'⟩:=y;cases ex<;>rfl
def cn.shut {μ:Mu} {h:ae} {w:World} (S:cn μ h w) {r:Nat} {x:Option (List Deferred)} (hr:w.heap[r]? = some (Obj.deferred x)) (o:Obj):cn μ h (w.putObj r o):=by
 have key : ∀ {B:Nat} {ob:Obj},w.heap[B]? = some ob->(∀ y,ob ≠ .deferred y)->(w.putObj r o).heap[B]? = some ob:=by intro B ob hB hne;rw [World.putObj_heap_other (by rintro rfl;rw [hr] at hB;cases hB;exact hne _ rfl)];exact hB
 refine ⟨?_,?_,?_,S.inj,by simpa using S.size,S.low⟩
 ·intro b cs hb hc;obtain ⟨L,a,T,f,h1,h2,h3,h4,h5⟩:=S.old b cs hb hc;exact ⟨L,a,T,f,h1,h2,h3,key h4 (by intro y hy;cases hy),h5⟩
 ·intro b k hb hg;obtain ⟨L,a,T,f,h1,h2,h4,h5⟩:=S.new b k hb hg;exact ⟨L,a,T,f,h1,h2,key h4 (by intro y hy;cases hy),h5⟩
 ·intro b ob hb hg;obtain ⟨L,ob',h1,h2,h3,h4⟩:=S.obj b ob hb hg;refine ⟨L,ob',h1,key h2 ?_,h3,h4⟩;rintro y rfl;cases ob<;>exact h3
def nV {P:Program} {nd:Nat} {fn:Func} {a:Act} {R:Ending->World->Prop} {μ μ0:Mu} {h h0:ae} {w0:World} :
  ∀ (rs:List Nat) {w:World},cn μ h w->ca μ0 h0 w0 μ h w->kF w0.heap.size μ h w rs ->
  (∀ w,cn μ h w->ca μ0 h0 w0 μ h w -> ∃ v,(results fn a.tmps).run P w = .ok v w/\R (.returned v) w) ->
  LeavesInM (Fr none) nd P fn a.tmps R (dw rs) .returning w
 | [],w,S,St,m,hR=>hR w S St
 |r::rs,w,S,St,m,hR=>by
  obtain ⟨h1,h2,h3⟩:=m.at_ r (by simp);have hd:=H3.1 m.dup;refine ⟨by simp,.inl ⟨r,_,rfl,run_takeDeferred h2,?_⟩⟩;refine nV rs (S.shut h2 _) ?_ ⟨hd.2,?_⟩ hR
  ·refine ⟨St.ext,St.n0,St.old,St.next,St.os,St.tape,St.output,by simpa using St.size,?_,St.own,?_,St.drawn⟩
   ·intro B hB hO;rw [World.putObj_heap_other (by omega)];exact St.same B hB hO
   ·intro B q hB;obtain ⟨q',hq⟩:=St.loops B q hB;have:=(DZ.1 hB).1;exact ⟨q',by rw [World.putObj_heap_other (by omega)];exact hq⟩
  ·intro q hq;obtain ⟨k1,k2,k3⟩:=m.at_ q (by simp [hq]);refine ⟨k1,?_,k3⟩;rw [World.putObj_heap_other (by rintro rfl;exact hd.1 hq)];exact k2
def zr {P:Program} {C:ah} (hC:aZ P C) (hm:P.follows .mixedOrders=true) {f:FuncId} {fn:Func} {c:Code} (hf:P.funcs[f]? = some fn) (hb:fn.body=some c) (hok:codeOk P c=true)
  {args:List Vl} {h h':ae} {v:Vl} (he:bodyA P C fn args h=some (v,h')) (hg:P.globals.size<=h.n0) (hba:cy h.next args=true) (hbh:aA h)
  {μ:Mu} {w:World} {args':List Vl} (S:cn μ h w) (hfr:eX μ h h') (r:aU μ args args') :
  Calls P f args'.toArray w (mJ μ h w v h'):=by
 unfold bodyA at he;rw [hb] at he;simp only at he;refine fr_calls (r:=none) (n:=0) (callsIn_of_wp_marks hf hb trivial ?_ rfl);have hbe:cy h.next (args++List.replicate (fn.ntmps-args.length) undef)=true:=
  bT hba (dM.2 fun x hx=>by rw [EZ hx];rfl)
 have her:gU (dw []) μ (args++List.replicate (fn.ntmps-args.length) undef) { tmps:=args'.toArray++Array.replicate (fn.ntmps-args'.toArray.size) undef,defers := [] }:=by refine ⟨?_,rfl⟩;have h1:args.length=args'.length:=r.1;simp only [FR,Array.toList_replicate,E7];rw [h1];exact r.append (aU.replicate μ _ (aD.undef μ))
 cases hc:codeA P C c (args++List.replicate (fn.ntmps-args.length) undef) h with
 |none=>rw [hc] at he;cases he
 |some y=>
  obtain ⟨ex,e1,h1⟩:=y;rw [hc] at he;have hgrow:resultsA P fn.results.toList e1 h1=some (v,h'):=by
   cases ex with
   |normal=>exact he
   |ret=>exact he
   |exit i=>cases he
  obtain rfl:=gY hgrow;refine di hC hm c hok none 0 w.heap.size [] _ _ _ _ _ _ _ _ _ hc hg hbe hbh S hfr her ⟨by simp,by simp⟩ (DO _) (fun l hl=>by cases hl) ?_;rintro a' w' ⟨μ',rs,hS,hSt,hr,hmk⟩;have fin:=nV (P:=P) (nd:=0) (fn:=fn) (a:=a') (R:=mJ μ h w v h') rs hS hSt hmk (fun w2 S2 St2=>by obtain ⟨v',h3,h4⟩:=oC (P:=P) (w:=w2) S2 hr hgrow;exact ⟨v',h3,μ',v',rfl,S2,St2,h4⟩)
  have hd:a'.defers=dw rs:=hr.2;cases ex with
  |normal=>simp only [zG,bodyPostM,hd];exact fin
  |ret=>simp only [zG,bodyPostM,hd];exact fin
  |exit i=>cases he
def rY {μ:Mu} : ∀ {e e':List Vl} (ps:List Tmp) {xs ys:List Vl},aU μ e e'->aU μ xs ys->aU μ (gQ e (ps.zip xs)) ((ps.zip ys).foldl (fun (t:List Vl) (p:Tmp×Vl)=>t.set p.1 p.2) e')
 |e,e',[],xs,ys,he,hx=>he
 |e,e',p::ps,[],[],he,hx=>he
 |e,e',p::ps,[],_::_,he,hx=>by have:=hx.1;simp at this
 |e,e',p::ps,_::_,[],he,hx=>by have:=hx.1;simp at this
 |e,e',p::ps,x::xs,y::ys,he,hx=>by simp only [List.zip_cons_cons,gQ,List.foldl_cons];exact rY ps (he.set p hx.head) hx.tail
def u9 (ps:Array Tmp) (ys:List Vl) (t:Array Vl):((ps.zip ys.toArray).foldl (fun tmps (p:Tmp×Vl)=>tmps.setIfInBounds p.1 p.2) t).toList=(ps.toList.zip ys).foldl (fun (t:List Vl) (p:Tmp×Vl)=>t.set p.1 p.2) t.toList:=by
 rw [<-Array.foldl_toList,Array.toList_zip];simp only;generalize ps.toList.zip ys=l;induction l generalizing t with
 |nil=>rfl
 |cons p l ih=>simp only [List.foldl_cons];rw [ih];simp
def ql {n:Nat} : ∀ {e:aQ} (ps:List Tmp) {xs:List Vl},cy n e=true->cy n xs=true->cy n (gQ e (ps.zip xs))=true
 |e,[],xs,he,hx=>he
 |e,p::ps,[],he,hx=>he
 |e,p::ps,x::xs,he,hx=>by simp only [cy,DN] at hx;exact ql ps (bdL_set he hx.1) hx.2
def jJ {P:Program} {C:ah} {l:Nat} {args:List Vl} {h h':ae} {v:Vl} (he:roundA P C l args h=some (v,h')) :
  ∃ st p0 t0 q0 assign body e1 h1 p1 t1 q1 a1 b1 x e2 h2,h.getB l=some (.obj (.loop st p0 t0 q0 assign body))/\args.length=q0.length/\codeOk P assign=true/\codeOk P body=true /\
    codeA P C assign (gQ t0 (q0.zip args)) h=some (.normal,e1,h1)/\h1.getB l=some (.obj (.loop .ready p1 t1 q1 a1 b1)) /\
    codeA P C body e1 (h1.setO l (.loop .busy p1 t1 q1 a1 b1))=some (x,e2,h2)/\gI l x h2=some (v,h'):=by
 unfold roundA at he;split at he
 ·rename_i st p0 t0 q0 assign body hg;split at he
  ·rename_i hc;split at he
   ·rename_i e1 h1 hca;split at he
    ·rename_i p1 t1 q1 a1 b1 hg1;split at he
     ·rename_i x e2 h2 hcb;exact ⟨st,p0,t0,q0,assign,body,e1,h1,p1,t1,q1,a1,b1,x,e2,h2,hg,hc.1,hc.2.1,hc.2.2,hca,hg1,hcb,he⟩
     ·cases he
    ·cases he
   ·cases he
  ·cases he
 ·cases he
def iO {l:Nat} {x:Ex} {h h':ae} {v:Vl} (he:gI l x h=some (v,h')) :
  ∃ st p t q a b,h.getB l=some (.obj (.loop st p t q a b))/\v = .bool (x == .normal)/\h'=h.setO l (.loop (if x = .normal then .ready else .done) (if x = .normal then none else some x) t q a b):=by
 unfold gI at he;split at he
 ·rename_i st p t q a b hg;cases he;exact ⟨st,p,t,q,a,b,hg,rfl,rfl⟩
 ·cases he
def roundA_grow {P:Program} {C:ah} (hC:aZ P C) {l:Nat} {args:List Vl} {h h':ae} {v:Vl} (he:roundA P C l args h=some (v,h')):bp h h':=by obtain ⟨st,p0,t0,q0,assign,body,e1,h1,p1,t1,q1,a1,b1,x,e2,h2,hg,hlen,ho1,ho2,hca,hg1,hcb,hend⟩:=jJ he;obtain ⟨_,_,_,_,_,_,_,_,rfl⟩:=iO hend;exact (((bN hC _ hca).trans (bp.setO _ _ _)).trans (bN hC _ hcb)).trans (bp.setO _ _ _)
def roundA_bd {P:Program} {C:ah} (hC:aZ P C) {l:Nat} {args:List Vl} {h h':ae} {v:Vl} (he:roundA P C l args h=some (v,h')) (hgl:P.globals.size<=h.n0) (hba:cy h.next args=true) (hbh:aA h) :
  bR h'.next v=true/\aA h':=by
 obtain ⟨st,p0,t0,q0,assign,body,e1,h1,p1,t1,q1,a1,b1,x,e2,h2,hg,hlen,ho1,ho2,hca,hg1,hcb,hend⟩:=jJ he;obtain ⟨_,_,_,_,_,_,hg2,rfl,rfl⟩:=iO hend;have hg1':=bN hC _ hca;obtain ⟨k1,k2⟩:=dF hC _ ho1 hgl (ql q0 (hbh.obj _ _ hg) hba) hbh hca;have hob1:=k2.obj _ _ hg1;obtain ⟨k3,k4⟩:=dF hC _ ho2 (h:=h1.setO l (.loop .busy p1 t1 q1 a1 b1)) (by rw [ae.wg,hg1'.2.1];exact hgl) (by simpa using k1) (k2.setO (h1.bk hg1) hg1 hob1) hcb;have hob2:=k4.obj _ _ hg2;exact ⟨rfl,k4.setO (h2.bk hg2) hg2 hob2⟩
def round_sound {P:Program} {C:ah} (hC:aZ P C) (hm:P.follows .mixedOrders=true) {l:Nat} {args:List Vl} {h h':ae} {v:Vl} (he:roundA P C l args h=some (v,h')) (hgl:P.globals.size<=h.n0)
  (hba:cy h.next args=true) (hbh:aA h) {μ:Mu} {w:World} {args':List Vl} {L:Loc} (S:cn μ h w) (hfr:eX μ h h') (r:aU μ args args') (hL:μ l=some L) :
  ∃ fn tmps assign body,(Instr.yield L.blk args'.toArray).run P w = .ok (.round L.blk fn tmps assign body) w /\ ∀ n,RoundIn (Fr none) n P L.blk fn tmps assign body w (mJ μ h w v h'):=by
 obtain ⟨st,p0,t0,q0,assign,body,e1,h1,p1,t1,q1,a1,b1,x,e2,h2,hg,hlen,ho1,ho2,hca,hg1,hcb,hend⟩:=jJ he;obtain ⟨s3,p3,t3,q3,a3,b3,hg3,rfl,rfl⟩:=iO hend;have gr1:=bN hC _ hca;have gr2:=bN hC _ hcb;have gr2n:h1.next<=h2.next:=by have:=gr2.1;simpa using this
 obtain ⟨L0,ob,g1,g2,g3,g4,g5⟩:=S.obj l _ (h.bk hg) hg;rw [hL] at g1;cases g1;cases ob with
 |loop R=>
  obtain ⟨k1,k2,k3,k4,k5,k6⟩:=g3;have hsz:args'.toArray.size=R.params.size:=by have h5:=r.1;have h6:R.params.toList.length=R.params.size:=Array.length_toList;rw [k4] at h6;simp only [E7];omega
  refine ⟨R.fn,_,R.assign,R.body,run_yield g2 hsz,fun n => ?_⟩;rw [k5,k6];have hbe:=ql q0 (hbh.obj _ _ hg) hba;obtain ⟨bd1,bd2⟩:=dF hC _ ho1 hgl hbe hbh hca;have hob1:=bd2.obj _ _ hg1;have hfr' : ∀ b,h.next<=b->b<h2.next->μ b=none:=fun b h5 h6=>hfr b h5 h6;refine roundIn_of_wpIn (F:=Fr none) trivial ?_;refine di hC hm assign ho1 (some L.blk) n w.heap.size [] _ _ _ _ _ _ _ _ _ hca hgl hbe hbh S (fun b h5 h6=>hfr' b h5 (by omega)) ?_ ⟨by simp,by simp⟩ (DO _) (fun l' hl'=>by cases hl';exact ⟨R,g2⟩) ?_
  ·refine ⟨?_,rfl⟩;have hfe:=u9 R.params args' R.tmps;have hp:=rY q0 k3 r;rw [<-k4] at hp |-;rw [<-hfe] at hp;exact hp
  ·rintro a' w1 ⟨μ1,rs1,S1,St1,er1,mk1⟩;have hμ1:μ1 l=some L:=St1.mono (fun b h5 h6=>hfr' b h5 (by omega)) _ _ hL;obtain ⟨L1,ob1,j1,j2,j3,j4,j5⟩:=S1.obj l _ (h1.bk hg1) hg1;rw [hμ1] at j1;cases j1;cases ob1 with
   |loop R1=>
    obtain ⟨m1,m2,m3,m4,m5,m6⟩:=j3;refine ⟨_,run_beginRound j2 m1,?_⟩;obtain ⟨S2,St2⟩:=S1.setO (o' := .loop .busy p1 t1 q1 a1 b1) (ob' := .loop { R1 with state := .busy }) hg1 hμ1 ⟨rfl,m2,m3,m4,m5,m6⟩;refine di hC hm body ho2 (some L.blk) n w.heap.size rs1 _ _ _ _ _ _ _ _ _ hcb (by rw [ae.wg,gr1.2.1];exact hgl) (by simpa using bd1) (bd2.setO (h1.bk hg1) hg1 hob1) S2 ?_ er1 (mk1.step St2) ?_ ?_ ?_
    ·intro b h5 h6;rw [St1.ext b (.inr (by simpa using h5))];have:=gr1.1;exact hfr' b (by simp at h5;omega) h6
    ·have:=St1.size;simpa using this
    ·intro l' hl';cases hl';exact ⟨_,World.putObj_heap_same (DZ.1 j2).1⟩
    ·rintro a'' w3 ⟨μ3,rs3,S3,St3,er3,mk3⟩;have StA:=(St1.trans St2).trans St3;have hμ3:μ3 l=some L:=StA.mono (fun b h5 h6=>hfr' b h5 h6) _ _ hL;obtain ⟨L3,ob3,n1,n2,n3,n4,n5⟩:=S3.obj l _ (h2.bk hg3) hg3;rw [hμ3] at n1;cases n1;cases ob3 with
     |loop R3=>
      obtain ⟨o1,o2,o3,o4,o5,o6⟩:=n3;have fin : ∀ (j:Option Code),j=(if x = .normal then none else some (BR x)) -> ∃ v w',(Instr.endRound L.blk j).run P w3 = .ok v w'/\mJ μ h w (.bool (x == .normal)) (h2.setO l (.loop (if x = .normal then .ready else .done) (if x = .normal then none else some x) t3 q3 a3 b3)) (.returned v) w':=by
       intro j hj;refine ⟨_,_,run_endRound j n2,?_⟩;obtain ⟨S4,St4⟩:=S3.setO (o' := .loop (if x = .normal then .ready else .done) (if x = .normal then none else some x) t3 q3 a3 b3)
        (ob' := .loop { R3 with state:=if j.isNone then .ready else .done,pending:=j }) hg3 hμ3 (by
         refine ⟨?_,?_,o3,o4,o5,o6⟩
         ·subst hj;by_cases hx:x = .normal<;>simp [hx]
         ·subst hj;by_cases hx:x = .normal<;>simp [hx])
       refine ⟨μ3,_,rfl,S4,StA.trans St4,?_⟩;have:j.isNone=(x == .normal):=by subst hj;by_cases hx:x = .normal<;>simp [hx]
       rw [this];exact .flat rfl
      cases x with
      |normal=>exact fin none rfl
      |ret=>exact fin (some .ret) rfl
      |exit i=>exact fin (some (.exit i)) rfl
     |_=>exact n3.elim
   |_=>exact j3.elim
 |_=>exact g3.elim
def renF (r:Nat->Nat):Fn->Fn
 | .yield l => .yield (r l)
 |f=>f
mutual
def fh (r:Nat->Nat):Vl->Vl
 | .pointer (some a) => .pointer (some ⟨r a.block,a.off,a.spot⟩)
 | .slice (some a) l c => .slice (some ⟨r a.block,a.off,a.spot⟩) l c
 | .agg ⟨l⟩ => .agg ⟨nO r l⟩
 | .tuple ⟨l⟩ => .tuple ⟨nO r l⟩
 | .map (some b) => .map (some (r b))
 | .func f ⟨a⟩ ⟨b⟩ => .func (renF r f) ⟨nO r a⟩ ⟨nO r b⟩
 | .iface t v => .iface t (fh r v)
 |v=>v
def nO (r:Nat->Nat):List Vl->List Vl
 | [] => []
 |x::l=>fh r x::nO r l
end
def wX (r:Nat->Nat) : ∀ l,nO r l=l.map (fh r)
 | []=>rfl
 |x::l=>by simp [nO,wX r l]
def flat_ren (r:Nat->Nat) (v:Vl) (h:flat (fh r v)=true):flat v=true/\fh r v=v:=by
 cases v with
 |pointer p=>cases p with
  |none=>exact ⟨rfl,rfl⟩
  |some a=>simp [fh,flat] at h
 |slice p l c=>cases p with
  |none=>exact ⟨rfl,rfl⟩
  |some a=>simp [fh,flat] at h
 |agg a=>obtain ⟨l⟩:=a;simp [fh,flat] at h
 |tuple a=>obtain ⟨l⟩:=a;simp [fh,flat] at h
 |func f a b=>
  obtain ⟨a⟩:=a;obtain ⟨b⟩:=b;cases f with
  |func i=>
   simp only [fh,renF,flat,DN,List.isEmpty_toArray,List.isEmpty_iff,wX,GQ] at h;obtain ⟨rfl,rfl⟩:=h;exact ⟨rfl,rfl⟩
  |_=>simp [fh,renF,flat] at h
 |map m=>cases m with
  |none=>exact ⟨rfl,rfl⟩
  |some b=>simp [fh,flat] at h
 |iface t v=>simp [fh,flat] at h
 |_=>exact ⟨h,rfl⟩
mutual
def aD.sG {μ:Mu} {r:Nat->Nat} : ∀ (v:Vl) {v':Vl},aD μ (fh r v) v'->aD (fun b=>μ (r b)) v v'
 | .pointer none,v',h=>by have:=h.bG rfl;subst this;exact .flat rfl
 | .pointer (some ⟨b,o,s⟩),v',h=>by
   simp only [fh] at h;cases h with
   |flat h=>simp [flat] at h
   |ptr h=>exact .ptr h
 | .slice none l c,v',h=>by have:=h.bG rfl;subst this;exact .flat rfl
 | .slice (some ⟨b,o,s⟩) l c,v',h=>by
   simp only [fh] at h;cases h with
   |flat h=>simp [flat] at h
   |slice h=>exact .slice h
   |mW h a b c d e=>exact .mW h a b c d e
   |jh h=>exact .jh h
   |yH=>exact .yH
 | .agg ⟨l⟩,v',h=>by simp only [fh] at h;obtain ⟨ys,rfl,hl⟩:=h.wz;exact .fS (aU.nN l hl)
 | .tuple ⟨l⟩,v',h=>by simp only [fh] at h;obtain ⟨ys,rfl,hl⟩:=h.Bk;exact .cN (aU.nN l hl)
 | .func f ⟨a⟩ ⟨b⟩,v',h=>by
   by_cases hf:flat (fh r (.func f ⟨a⟩ ⟨b⟩))=true
   ·obtain ⟨h1,h2⟩:=flat_ren r _ hf;have h3:=h.bG hf;rw [h2] at h3;subst h3;exact .flat h1
   ·simp only [fh] at h hf;cases h with
    |flat h=>exact absurd h hf
    | @func _ g _ ys _ zs hfr h1 h2 h3 h4=>
      have q1:aU μ (nO r a) ys.toList:=⟨by simpa using h1,fun i x y hx hy=>h2 i x y (by simpa using hx) (by simpa using hy)⟩
      have q2:aU μ (nO r b) zs.toList:=⟨by simpa using h3,fun i x y hx hy=>h4 i x y (by simpa using hx) (by simpa using hy)⟩
      have p1:=aU.nN a q1;have p2:=aU.nN b q2;refine .func ?_ (by simpa using p1.1) (fun i x y hx hy=>p1.2 i x y (by simpa using hx) (by simpa using hy)) (by simpa using p2.1) (fun i x y hx hy=>p2.2 i x y (by simpa using hx) (by simpa using hy));cases f with
      |yield l=>exact hfr
      |_=>exact hfr
 | .iface t v,v',h=>by
   simp only [fh] at h;cases h with
   |flat h=>simp [flat] at h
   |iface h=>exact .iface (aD.sG v h)
 | .bool _,v',h=>by have:=h.bG rfl;subst this;exact .flat rfl
 | .int _ _,v',h=>by have:=h.bG rfl;subst this;exact .flat rfl
 | .float _ _,v',h=>by have:=h.bG rfl;subst this;exact .flat rfl
 | .complex _ _ _,v',h=>by have:=h.bG rfl;subst this;exact .flat rfl
 | .string _,v',h=>by have:=h.bG rfl;subst this;exact .flat rfl
 | .map none,v',h=>by have:=h.bG rfl;subst this;exact .flat rfl
 | .map (some _),v',h=>by
   simp only [fh] at h;cases h with
   |flat h=>simp [flat] at h
   |map h=>exact .map h
 | .chan none,v',h=>by have:=h.bG rfl;subst this;exact .flat rfl
 | .chan (some _),v',h=>by
   simp only [fh] at h;cases h with
   |flat h=>simp [flat] at h
 | .nilFunc,v',h=>by have:=h.bG rfl;subst this;exact .flat rfl
 | .nilIface,v',h=>by have:=h.bG rfl;subst this;exact .flat rfl
def aU.nN {μ:Mu} {r:Nat->Nat} : ∀ (l:List Vl) {l':List Vl},aU μ (nO r l) l'->aU (fun b=>μ (r b)) l l'
 | [],l',h=>by have:=h.1;simp only [nO,List.length_nil] at this;obtain rfl:=GY this.symm;exact aU.nil _
 |x::l,l',h=>by
  simp only [nO] at h
  match l',h with
  | [],h=>have:=h.1;simp at this
  |y::l',h=>exact .cons (aD.sG x h.head) (aU.nN l h.tail)
end
mutual
def nD {r:Nat->Nat} {n:Nat} (hr : ∀ b,b<n->r b=b) : ∀ (v:Vl),bR n v=true->fh r v=v
 | .pointer none,_=>rfl
 | .pointer (some ⟨b,o,s⟩),h=>by simp only [bR,D7] at h;simp only [fh,hr b h]
 | .slice none l c,_=>rfl
 | .slice (some ⟨b,o,s⟩) l c,h=>by simp only [bR,D7] at h;simp only [fh,hr b h]
 | .agg ⟨l⟩,h=>by simp only [fh];rw [lR hr l h]
 | .tuple ⟨l⟩,h=>by simp only [fh];rw [lR hr l h]
 | .func f ⟨a⟩ ⟨b⟩,h=>by
   simp only [bR,DN] at h;simp only [fh];rw [lR hr a h.2.1,lR hr b h.2.2];cases f with
   |yield l=>simp only [bdF,D7] at h;simp only [renF,hr l h.1]
   |_=>rfl
 | .iface t v,h=>by simp only [bR] at h;simp only [fh];rw [nD hr v h]
 | .bool _,_=>rfl
 | .int _ _,_=>rfl
 | .float _ _,_=>rfl
 | .complex _ _ _,_=>rfl
 | .string _,_=>rfl
 | .map none,_=>rfl
 | .map (some b),h=>by simp only [bR,D7] at h;simp only [fh,hr b h]
 | .chan _,_=>rfl
 | .nilFunc,_=>rfl
 | .nilIface,_=>rfl
def lR {r:Nat->Nat} {n:Nat} (hr : ∀ b,b<n->r b=b) : ∀ (l:List Vl),cy n l=true->nO r l=l
 | [],_=>rfl
 |x::l,h=>by simp only [cy,DN] at h;simp only [nO];rw [nD hr x h.1,lR hr l h.2]
end
def renO (r:Nat->Nat):fl->fl
 | .map es c => .map (es.map fun x=>(fh r x.1,fh r x.2.1,x.2.2)) c
 | .iter m a b c => .iter (m.map r) a b c
 | .loop st p t q a b => .loop st p (nO r t) q a b
def renB (r:Nat->Nat):BB->BB
 | .cells k => .cells (nO r k)
 | .obj o => .obj (renO r o)
def renO_id {r:Nat->Nat} {n:Nat} (hr : ∀ b,b<n->r b=b) {o:fl} (h:sZ n o=true):renO r o=o:=by
 cases o with
 |map es c=>
  simp only [sZ,DX,DN] at h;simp only [renO]
  congr 1
  have:es.map (fun x=>(fh r x.1,fh r x.2.1,x.2.2))=es.map id:=List.map_congr_left fun x hx=>by have:=h x hx;rw [nD hr x.1 this.1,nD hr x.2.1 this.2];rfl
  rw [this,List.map_id]
 |iter m a b c=>
  cases m with
  |none=>rfl
  |some q=>simp only [sZ,D7] at h;simp only [renO,Option.map_some,hr q h]
 |loop st p t q a b=>simp only [renO];rw [lR hr t h]
def bdB (n:Nat):BB->Bool
 | .cells k=>cy n k
 | .obj o=>sZ n o
def Cq {r:Nat->Nat} {n:Nat} (hr : ∀ b,b<n->r b=b) {x:BB} (h:bdB n x=true):renB r x=x:=by
 cases x with
 |cells k=>simp only [renB,lR hr k h]
 |obj o=>simp only [renB,renO_id hr h]
def aA.bb {h:ae} (hb:aA h) {b:Nat} {x:BB} (hg:h.getB b=some x):bdB h.next x=true:=by
 cases x with
 |cells k=>exact hb b k (h.get_of_getB hg)
 |obj o=>exact hb.obj b o hg
def pC.sG {μ:Mu} {r:Nat->Nat} {o:fl} {ob:Obj} (h:pC μ (renO r o) ob):pC (fun b=>μ (r b)) o ob:=by
 cases o with
 |map es c=>
  cases ob with
  |map es' c'=>
   obtain ⟨h1,h2,h3⟩:=h;refine ⟨h1,by simpa using h2,fun i x e hx he => ?_⟩;have:=h3 i (fh r x.1,fh r x.2.1,x.2.2) e (by simp [hx]) he;exact ⟨aD.sG _ this.1,aD.sG _ this.2.1,this.2.2⟩
  |_=>exact h.elim
 |iter m a b c=>
  cases ob with
  |mapIter m' a' b' c'=>
   obtain ⟨h1,h2⟩:=h;refine ⟨?_,h2⟩;cases m with
   |none=>cases m' with
    |none=>trivial
    |some B=>exact h1
   |some q=>cases m' with
    |none=>exact h1
    |some B=>exact h1
  |_=>exact h.elim
 |loop st p t q a b=>
  cases ob with
  |loop R=>
   obtain ⟨h1,h2,h3,h4⟩:=h;exact ⟨h1,h2,aU.nN _ h3,h4⟩
  |_=>exact h.elim
structure Gc (h:ae) (v:Vl) (h':ae) (v1:Vl) (h1:ae) (r:Nat->Nat):Prop where
 low : ∀ b,b<h.next->r b=b
 new : ∀ b,h.next<=b->b<h'.next->h.next<=r b
 inj : ∀ b b',h.next<=b->b<h'.next->h.next<=b'->b'<h'.next->r b=r b'->b=b'
 val:v1=fh r v
 get : ∀ b k,h'.n0<=b->h'.getB b=some k->h1.getB (r b)=some (renB r k)
def Gc.getC {h:ae} {v:Vl} {h':ae} {v1:Vl} {h1:ae} {r:Nat->Nat} (G:Gc h v h' v1 h1 r) (b:Nat) (k:eW) (hb:h'.n0<=b) (hg:h'.get b=some k):h1.get (r b)=some (nO r k):=
 h1.get_of_getB (G.get b _ hb (h'.aO hg))
def gc_sound {μ μ1:Mu} {h h' h1:ae} {w w':World} {v v1 v':Vl} {r:Nat->Nat} (G:Gc h v h' v1 h1 r) (gr:bp h h') (gr1:bp h h1) (hbh:aA h) (hbh':aA h') (hbv:bR h'.next v=true)
  (S1:cn μ1 h1 w') (St:ca (μ.cut h.next) h w μ1 h1 w') (hv:aD μ1 v1 v') :
  ∃ μ',cn μ' h' w'/\ca μ h w μ' h' w'/\aD μ' v v':=by
 have hle:=h.n0_le_next
 let μ':Mu:=fun b=>if b<h.next then μ b else if b<h'.next then μ1 (r b) else μ b
 have e1 : ∀ b,b<h.next->μ1 b=μ b:=fun b hb=>by rw [St.ext b (.inl hb)];simp [Mu.cut,hb]
 have e2 : ∀ b,b<h'.next->μ' b=μ1 (r b):=by
  intro b hb;by_cases hb1:b<h.next
  ·rw [G.low b hb1,e1 b hb1];simp [μ',hb1]
  ·simp [μ',hb1,hb]
 have up : ∀ b L,Mu.cut (fun b=>μ1 (r b)) h'.next b=some L->μ' b=some L:=by intro b L hb;obtain ⟨h2,h3⟩:=Mu.Dq hb;rw [e2 b h3];exact h2
 have relL : ∀ {k l:List Vl},cy h'.next k=true->aU μ1 (nO r k) l->aU μ' k l:=fun hb hl=>((aU.nN _ hl).cut hb).mono up;have relV : ∀ {k l:Vl},bR h'.next k=true->aD μ1 (fh r k) l->aD μ' k l:=fun hb hl=>((aD.sG _ hl).cut hb).mono up;have n1:h1.n0=h'.n0:=gr1.2.1.trans gr.2.1.symm;have n2:h'.n0=h.n0:=gr.2.1;have rge : ∀ b,h'.n0<=b->b<h'.next->h'.n0<=r b:=by
  intro b hb hbn;by_cases hb1:b<h.next
  ·rw [G.low b hb1];exact hb
  ·have:=G.new b (by omega) hbn;omega
 have rinj : ∀ b b',b<h'.next->b'<h'.next->r b=r b'->b=b':=by
  intro b b' hb hb' he;by_cases c1:b<h.next
  ·by_cases c2:b'<h.next
   ·rw [G.low b c1,G.low b' c2] at he;exact he
   ·have:=G.new b' (by omega) hb';rw [G.low b c1] at he;omega
  ·by_cases c2:b'<h.next
   ·have:=G.new b (by omega) hb;rw [G.low b' c2] at he;omega
   ·exact G.inj b b' (by omega) hb (by omega) hb' he
 refine ⟨μ',⟨?_,?_,?_,?_,?_,?_⟩,?_,?_⟩
 ·intro b cs hb hc;have hbl:b<h.next:=by omega
  obtain ⟨L,arr,T,fr,h2,h3,h4,h5,h6⟩:=S1.old b cs (n1▸hb) (by rw [gr1.2.2,<-gr.2.2];exact hc);have hbd:cy h.next cs=true:=by refine hbh b cs ?_;unfold ae.get;simp only [ae.gJ];rw [DR (n2▸hb),<-gr.2.2,hc];rfl
  refine ⟨L,arr,T,fr,?_,h3,h4,h5,?_⟩
  ·rw [e2 b (by have:=gr.1;omega),G.low b hbl];exact h2
  ·exact ⟨h6.1,fun i x y hx hy hh=>relV (jU (bW gr.1 hbd) hx) (by rw [nD G.low x (jU hbd hx)];exact h6.2 i x y hx hy hh)⟩
 ·intro b k hb hg;have hbn:=h'.aW hg;obtain ⟨L,arr,T,fr,h2,h3,h4,h5,h6,h7,h8,h9⟩:=S1.new (r b) _ (n1▸rge b hb hbn) (G.getC b k hb hg);refine ⟨L,arr,T,fr,by rw [e2 b hbn];exact h2,by rw [h3,wX];simp,h4,h5,h6,h7,n1▸h8,relL (hbh' b k hg) h9⟩
 ·intro b o hb hg;have hbn:=h'.lt_of_getB hg;obtain ⟨L,ob,h2,h3,h4,h5,h6⟩:=S1.obj (r b) _ (n1▸rge b hb hbn) (G.get b _ hb hg);exact ⟨L,ob,by rw [e2 b hbn];exact h2,h3,(h4.sG.cut (hbh'.obj b o hg)).mono up,n1▸h5,h6⟩
 ·intro b b' k k' L L' hb hb' hne hg hg' hL hL';have hbn:=h'.lt_of_getB hg;have hbn':=h'.lt_of_getB hg';rw [e2 b hbn] at hL;rw [e2 b' hbn'] at hL';exact S1.inj (r b) (r b') _ _ L L' (n1▸rge b hb hbn) (n1▸rge b' hb' hbn') (fun he=>hne (rinj b b' hbn hbn' he)) (G.get b k hb hg) (G.get b' k' hb' hg') hL hL'
 ·rw [<-n1];exact S1.size
 ·intro b hb;obtain ⟨L,h2,h3⟩:=S1.low b (n1▸hb);exact ⟨L,by rw [e2 b (by have:=gr.1;omega),G.low b (by omega)];exact h2,h3⟩
 ·have ownup : ∀ B,AA (μ.cut h.next) h B->AA μ h B:=by rintro B ⟨b,k,L,h2,h3,h4,h5⟩;exact ⟨b,k,L,h2,h3,(Mu.Dq h4).1,h5⟩
  have owndn : ∀ B,AA μ h B->AA (μ.cut h.next) h B:=by rintro B ⟨b,k,L,h2,h3,h4,h5⟩;exact ⟨b,k,L,h2,h3,Mu.eu h4 (h.lt_of_getB h3),h5⟩
  refine ⟨?_,gr.2.1,gr.2.2,gr.1,St.os,St.tape,St.output,St.size,fun B hB hO=>St.same B hB (fun h2=>hO (ownup B h2)),?_,St.loops,St.drawn⟩
  ·intro b hb;simp only [μ'];rcases hb with hb|hb
   ·rw [DR hb]
   ·rw [DU (by have:=gr.1;omega),DU (by omega)]
  ·rintro B ⟨b,k,L,h2,h3,h4,h5⟩;have hbn:=h'.lt_of_getB h3;rw [e2 b hbn] at h4;exact (St.own B ⟨r b,_,L,n1▸rge b h2 hbn,G.get b k h2 h3,h4,h5⟩).imp (ownup B) id
 ·exact relV hbv (G.val▸hv)
structure bq (P:Program) (f:FuncId) (s:List Vl->ae->ba):Prop where
 fn:f<P.funcs.size
 grow : ∀ args h v h',s args h=some (v,h')->bp h h'
 bd : ∀ args h v h',s args h=some (v,h')->cy h.next args=true->aA h->bR h'.next v=true/\aA h'
 run : ∀ args h v h',s args h=some (v,h')->cy h.next args=true->aA h->P.globals.size<=h.n0 -> ∀ μ w args',cn μ h w->eX μ h h'->aU μ args args' ->
  Cj P f args'.toArray w (mJ μ h w v h')
def bq.of_body {P:Program} {C:ah} (hC:aZ P C) (hm:P.follows .mixedOrders=true) {f:FuncId} {fn:Func} {c:Code} {s:List Vl->ae->ba}
  (hf : P.funcs[f]? = some fn) (hn : (fn.name == "runtime.NumGoroutine") = false) (hb : fn.body = some c) (hok : codeOk P c = true)
  (grow : ∀ args h v h',s args h=some (v,h')->bp h h')
  (bd : ∀ args h v h',s args h=some (v,h')->cy h.next args=true->aA h->bR h'.next v=true/\aA h')
  (body : ∀ args h v h',s args h=some (v,h')->cy h.next args=true->aA h->P.globals.size<=h.n0 -> ∃ v1 h1 r,aY P C fn args h=some (v1,h1)/\Gc h v h' v1 h1 r):bq P f s where
 fn:=(DZ.1 hf).1
 grow:=grow
 bd:=bd
 run:=by
  intro args h v h' hs hba hbh hg μ w args' S hfr r;obtain ⟨v1,h1,rr,he,G⟩:=body args h v h' hs hba hbh hg;rw [nc] at he;have gr1:bp h h1:=by
   unfold bodyA at he;rw [hb] at he;simp only at he;cases hc:codeA P C c (args++List.replicate (fn.ntmps-args.length) undef) h with
   |none=>rw [hc] at he;cases he
   |some y=>
    obtain ⟨ex,e1,h2⟩:=y;rw [hc] at he;have hgrow:resultsA P fn.results.toList e1 h2=some (v1,h1):=by
     cases ex with
     |normal=>exact he
     |ret=>exact he
     |exit i=>cases he
    rw [gY hgrow];exact bN hC c hc
  have hcut:eX (μ.cut h.next) h h1:=fun b hb _=>by simp [Mu.cut,HY.2 hb]
  refine .inl ⟨fn,hf,hn,by rw [hb];rfl,(zr hC hm hf hb hok he hg hba hbh (S.cut hbh) hcut (r.cut hba)).mono ?_⟩;rintro e w' ⟨μ1,v',rfl,S1,St,hv⟩;obtain ⟨hb1,hb2⟩:=bd args h v h' hs hba hbh;obtain ⟨μ',h2,h3,h4⟩:=gc_sound G (grow args h v h' hs) gr1 hbh hb2 hb1 S1 St hv;exact ⟨μ',v',rfl,h2,h3,h4⟩
def jc:List (FuncId×(List Vl->ae->ba))->ah
 | [],_,_,_=>none
 | (g,s)::t,f,args,h=>if f=g then s args h else jc t f args h
def qp {l:List (FuncId×(List Vl->ae->ba))} {f:FuncId} {args:List Vl} {h:ae} {r:Vl×ae} (he:jc l f args h=some r) : ∃ p∈l,p.1=f/\p.2 args h=some r:=by
 induction l with
 |nil=>cases he
 |cons p t ih=>
  obtain ⟨g,s⟩:=p;simp only [jc] at he;split at he
  ·rename_i e;exact ⟨(g,s),by simp,e.symm,he⟩
  ·obtain ⟨q,h1,h2⟩:=ih he;exact ⟨q,by simp [h1],h2⟩
def dS {P:Program} (l:List (FuncId×(List Vl->ae->ba))) (hl : ∀ p∈l,bq P p.1 p.2):aZ P (jc l):=by
 refine ⟨?_,?_,?_,?_⟩
 ·intro f args h v h' he;obtain ⟨p,hp,rfl,he'⟩:=qp he;exact (hl p hp).grow args h v h' he'
 ·intro f args h v h' he;obtain ⟨p,hp,rfl,he'⟩:=qp he;exact (hl p hp).bd args h v h' he'
 ·intro f args h v h' he _;obtain ⟨p,hp,rfl,he'⟩:=qp he;exact (hl p hp).run args h v h' he'
 ·intro l' args h v h' he;obtain ⟨p,hp,hf,he⟩:=qp he;have h1:=(hl p hp).fn;rw [hf] at h1;exact absurd h1 (HY.2 (HW _ _))
def Gc.none {h h1:ae} {v:Vl} (hb:bR h.next v=true) (hbh:aA h) (hk : ∀ b k,h.n0<=b->h.getB b=some k->h1.getB b=some k):Gc h v h v h1 id where
 low _ _:=rfl
 new _ h1 h2:=by omega
 inj _ _ h1 h2:=by omega
 val:=(nD (n:=h.next) (fun _ _=>rfl) v hb).symm
 get b k h1 h2:=by rw [Cq (r:=id) (n:=h.next) (fun _ _=>rfl) (hbh.bb h2)];exact hk b k h1 h2
def Gc.sub {h h' h1:ae} {v:Vl} (hb:bR h'.next v=true) (hbh:aA h') (hk : ∀ b k,h'.n0<=b->h'.getB b=some k->h1.getB b=some k):Gc h v h' v h1 id where
 low _ _:=rfl
 new _ h1 _:=h1
 inj _ _ _ _ _ _ h:=h
 val:=(nD (n:=h'.next) (fun _ _=>rfl) v hb).symm
 get b k h1 h2:=by rw [Cq (r:=id) (n:=h'.next) (fun _ _=>rfl) (hbh.bb h2)];exact hk b k h1 h2
def xf (n B:Nat):Nat->Nat:=fun b=>if b=n then B else b
def Gc.one {h hm h1:ae} {v v1:Vl} {k:eW} {B:Nat} (hn:hm.next=h.next) (h0:hm.n0=h.n0) (hB:h.next<=B) (hbm:aA hm) (hv:v1=fh (xf h.next B) v) (hk:h1.getB B=some (.cells (nO (xf h.next B) k)))
  (hs : ∀ b k,h.n0<=b->hm.getB b=some k->h1.getB b=some k):Gc h v (hm.alloc k) v1 h1 (xf h.next B) where
 low b hb:=by unfold xf;rw [DU (by omega)]
 new b h2 h3:=by rw [ae.eR,hn] at h3;unfold xf;rw [DR (by omega)];exact hB
 inj b b' h2 h3 h4 h5 _:=by rw [ae.eR,hn] at h3 h5;omega
 val:=hv
 get b k' h2 h3:=by
  rw [ae.dt,hn] at h3;by_cases e:b=h.next
  ·rw [DR e] at h3;cases h3;have:xf h.next B b=B:=by unfold xf;rw [DR e]
   rw [this];exact hk
  ·rw [DU e] at h3;have hb:=hm.lt_of_getB h3;have:xf h.next B b=b:=by unfold xf;rw [DU e]
   rw [this,Cq (n:=hm.next) (fun c hc=>by unfold xf;rw [DU (by omega)]) (hbm.bb h3)];exact hs b k' (by rw [ae.n0_alloc,h0] at h2;exact h2) h3
def pu (v:Option Vl) (h:ae):ba:=v.map fun v=>(v,h)
def nC:List Nat->Code->Code
 | [],c=>c
 | 0::p,.seq a _=>nC p a
 |_::p,.seq _ b=>nC p b
 | 0::p,.cond _ a _=>nC p a
 |_::p,.cond _ _ b=>nC p b
 |_::p,.block _ b=>nC p b
 |_::p,.loop b=>nC p b
 |_::p,.scope b=>nC p b
 |_::_,c=>c
def al (fn:Func) (p:List Nat):Code:=
 match fn.body with
 |some c=>nC p c
 |none => .skip
def bC:Vl->Option Bool
 | .bool b=>some b
 |_=>none
def dj (cells:List Vl) (h:ae):ba:=some (newRow cells h)
def dG (z:List Vl) (ps:List (Nat×Nat×Vl)):Option Vl:=(jT z ps).map fun cs => .agg cs.toArray
def fE (n:Nat) (z:Vl) (len:Nat) (parts:List (Nat×Vl)) (h:ae):ba:=
 if bD z.cells.toList&&z.cells.size=n&&0<n&&len*n<=16777216&&aN (parts.flatMap fun x=>x.2.cells.toList) then
  match jT (dC z.cells.toList len) (parts.map fun x=>(x.1*n,n,x.2)) with
  |some cs=>some (.slice (some ⟨h.next,0,none⟩) len len,h.alloc cs)
  |none=>none
 else none
def iD (k:IntKind) (x:Vl) (h:ae):ba:=
 match x with
 | .int _ n=>some (.int k (k.wrap n),h)
 |_=>none
def mkR (n qX:Nat) (z:Vl) (len cap:Vl) (h:ae):ba:=
 match len,cap with
 | .int .i64 l,.int .i64 c=>
   if 0<=l&&l<=c&&c<=9223372036854775807&&qX*c<=281474976710656&&bD z.cells.toList&&z.cells.size=n&&0<n then
    some (.slice (some ⟨h.next,0,none⟩) l.toNat c.toNat,h.alloc (dC z.cells.toList c.toNat))
   else none
 |_,_=>none
def slR (size:Nat) (x:Vl) (lo hi mx:Option Vl):Option Vl:=
 match x with
 | .string _=>none
 |x=>sliceSl size x lo hi mx
def ixA1 (n z:Nat) (x i:Vl):Option Vl:=
 match x,i with
 | .agg cs,.int _ i=>if 0<=i/\i<n then cs[i.toNat*z]? else none
 |_,_=>none
def lenS (x:Vl):Option Vl:=
 match x with
 | .string s=>some (.int .i64 s.size)
 |_=>none
def cI (x:Vl):Option Vl:=
 match x with
 | .slice _ n _=>some (.int .i64 n)
 |_=>none
def fb {α:Type} (y:Option (Ex×aQ×ae)) (r:aQ->ae->Option α) (x:Nat->aQ->ae->Option α):Option α:=
 match y with
 |some (.ret,e',h')=>r e' h'
 |some (.exit i,e',h')=>x i e' h'
 |_=>none
abbrev AL:=List (Nat×Vl)
def lkB (e0:aQ) (l:AL) (t:Nat):Vl:=
 List.rec (motive:=fun _=>Vl) (e0.getD t undef) (fun p _ ih=>Bool.rec (motive:=fun _=>Vl) ih p.2 (Nat.beq p.1 t)) l
def qO (n:Nat) (l:AL) (d:Option Tmp) (v:Vl):AL:=
 match d with
 |some t=>match Nat.blt t n with
  |true=>(t,v)::l
  |false=>l
 |none=>l
def iq (n:Nat) (e0:aQ) (l:AL):aQ:=(List.range n).map (lkB e0 l)
def lkB_nil (e0:aQ) (t:Nat):lkB e0 [] t=e0.getD t undef:=rfl
def lkB_cons (e0:aQ) (p:Nat×Vl) (l:AL) (t:Nat):lkB e0 (p::l) t=if p.1=t then p.2 else lkB e0 l t:=by
 show Bool.rec (motive:=fun _=>Vl) (lkB e0 l t) p.2 (Nat.beq p.1 t)=_;cases hb:Nat.beq p.1 t with
 |true=>rw [DR (FZ hb)]
 |false=>rw [DU (F6 hb)]
def fD (n:Nat) (e0:aQ) (l:AL) (t:Nat):(iq n e0 l)[t]? = if t<n then some (lkB e0 l t) else none:=by
 unfold iq;rw [EG];by_cases h:t<n
 ·rw [DR h,F0 h];rfl
 ·rw [DU h,ER (by simpa using h)];rfl
def expB_nil (e0:aQ):iq e0.length e0 []=e0:=by
 apply FA;intro i;rw [fD];by_cases h:i<e0.length
 ·rw [DR h,lkB_nil,DV,DL h];rfl
 ·rw [DU h,ER (by omega)]
def tv (n:Nat) (e0:aQ) (l:AL) (d:Option Tmp) (v:Vl):iq n e0 (qO n l d v)=putD (iq n e0 l) d v:=by
 cases d with
 |none=>rfl
 |some t=>
  apply FA;intro i;unfold putD qO;simp only;rw [FE,fD];have hlen:(iq n e0 l).length=n:=by simp [iq]
  rw [hlen];cases hb:Nat.blt t n with
  |true=>
   have ht:t<n:=by simpa using hb
   simp only [fD,lkB_cons,ht,D8];by_cases e:t=i
   ·subst e;simp [ht]
   ·simp [e]
  |false=>
   have ht : ¬t<n:=by intro h;rw [show Nat.blt t n=true by simpa using h] at hb;cases hb
   simp only [fD,ht,D3];by_cases e:t=i
   ·subst e;simp [ht]
   ·simp [e]
def evB (n:Nat) (e0:aQ) (l:AL):Operand->Vl
 | .tmp t=>match Nat.blt t n with
   |true=>lkB e0 l t
   |false=>undef
 | .const v=>v
 | .global g=>ptr g 0
 | .func f => .func (.func f) #[] #[]
def CY (n:Nat) (e0:aQ) (l:AL):ev (iq n e0 l)=evB n e0 l:=by
 funext x
 cases x with
 |tmp t=>
  simp only [ev,evB,DV,fD];cases hb:Nat.blt t n with
  |true=>have ht:t<n:=by simpa using hb
         simp [ht]
  |false=>
   have ht : ¬t<n:=by intro h;rw [show Nat.blt t n=true by simpa using h] at hb;cases hb
   simp [ht]
 |_=>rfl
def nY (n:Nat) (e0:aQ) (ops:Array Oper) (l:AL) (j:Nat):Option Bool:=
 match (ops[j]?).bind (·.dst) with
 |some t=>match Nat.blt t n with
  |true=>bC (lkB e0 l t)
  |false=>none
 |none=>none
def AX (n:Nat) (e0:aQ) (ops:Array Oper) (l:AL) (j:Nat):iM ops (iq n e0 l) j=nY n e0 ops l j:=by
 unfold iM nY;cases (ops[j]?).bind (·.dst) with
 |none=>rfl
 |some t=>
  simp only [Option.bind_some,fD];cases hb:Nat.blt t n with
  |true=>
   have ht:t<n:=by simpa using hb
   simp only [ht,D8];cases lkB e0 l t<;>rfl
  |false=>
   have ht : ¬t<n:=by intro h;rw [show Nat.blt t n=true by simpa using h] at hb;cases hb
   simp [ht]
section
variable {α:Type} (P:Program) (C:ah) (n:Nat) (e0:aQ)
def opsB (ops:Array Oper) (os:List Oper):AL->ae->(AL->ae->Option α)->Option α:=
 List.rec (motive:=fun _=>AL->ae->(AL->ae->Option α)->Option α) (fun l h k=>k l h)
  (fun o _ ih l h k=>
   match o.guard with
   |none=>aa (opA P C o (evB n e0 l) h) fun v h'=>ih (qO n l o.dst v) h' k
   |some (j,want)=>aa (au (nY n e0 ops l j==some want) (opA P C o (evB n e0 l) h) h) fun v h'=>ih (qO n l o.dst v) h' k) os
def Db (ops:Array Oper) : ∀ (os:List Oper) (l:AL) (h:ae) (k:AL->ae->Option α) (kk:aQ->ae->Option α),(∀ l h,k l h=kk (iq n e0 l) h) ->
  opsB P C n e0 ops os l h k=opsK P C ops os (iq n e0 l) h kk
 | [],l,h,k,kk,hk=>hk l h
 |o::rest,l,h,k,kk,hk=>by
  have ih : ∀ l h,List.rec (motive:=fun _=>AL->ae->(AL->ae->Option α)->Option α) (fun l h k=>k l h)
    (fun o _ ih l h k=>
     match o.guard with
     |none=>aa (opA P C o (evB n e0 l) h) fun v h'=>ih (qO n l o.dst v) h' k
     |some (j,want)=>aa (au (nY n e0 ops l j==some want) (opA P C o (evB n e0 l) h) h) fun v h'=>ih (qO n l o.dst v) h' k) rest l h k=opsK P C ops rest (iq n e0 l) h kk:=fun l h=>Db ops rest l h k kk hk
  unfold opsB opsK;simp only [CY,AX];cases hg:o.guard with
  |none=>
   simp only
   congr 1
   funext v h'
   rw [ih,tv]
  |some g=>
   obtain ⟨j,want⟩:=g;simp only
   congr 1
   funext v h'
   rw [ih,tv]
structure Tb where
 l:AL
 h:ae
 v:Vl
 sI:Bool
def chkB (os:List (Nat×Oper)) (tr:List Tb) (hs:List ae) (x:Nat×Nat):Bool:=
 match os[x.1]?,tr[x.1]?,pj (tr.map (·.sI)) hs (madeIn P os x) (if x.2<x.1 then x.2 else x.2+1) with
 |some y,some t,some h=>fP t.sI (opA P C y.2 (evB n e0 t.l) h) t.v
 |some _,some t,none => !t.sI
 |_,_,_=>false
def dynB (ops:Array Oper) (os:List (Nat×Oper)) (tr:List Tb) (hEnd:ae):Bool:=
 (pk P ops os).foldr (fun x acc=>chkB P C n e0 os tr (tr.map (·.h) ++ [hEnd]) x&&acc) true
def Tb.up (n:Nat) (e0:aQ) (t:Tb):CG:=⟨iq n e0 t.l,t.h,t.v,t.sI⟩
def dynB_eq (ops:Array Oper) (os:List (Nat×Oper)) (tr:List Tb) (hEnd:ae):dynB P C n e0 ops os tr hEnd=ug P C ops os (tr.map (Tb.up n e0)) hEnd:=by
 unfold dynB ug
 congr 1
 funext x acc
 congr 1
 unfold chkB chkAt;have h1:(tr.map (Tb.up n e0)).map (·.h)=tr.map (·.h):=by simp [GK,Function.comp_def,Tb.up]
 have h2:(tr.map (Tb.up n e0)).map (·.sI)=tr.map (·.sI):=by simp [GK,Function.comp_def,Tb.up]
 rw [h1,h2,EG];cases os[x.1]? with
 |none=>rfl
 |some y=>
  cases tr[x.1]? with
  |none=>rfl
  |some t=>
   cases pj (tr.map (·.sI)) (List.map (fun x=>x.h) tr ++ [hEnd]) (madeIn P os x) (if x.2<x.1 then x.2 else x.2+1) with
   |none=>rfl
   |some h=>simp [Tb.up,CY]
def CL (ops:Array Oper) (os:List (Nat×Oper)):AL->ae->(List Tb->AL->ae->Option α)->Option α:=
 List.rec (motive:=fun _=>AL->ae->(List Tb->AL->ae->Option α)->Option α) (fun l h k=>k [] l h)
  (fun x _ ih l h k=>
   match x.2.guard with
   |none=>aa (opA P C x.2 (evB n e0 l) h) fun v h'=>ih (qO n l x.2.dst v) h' fun tr=>k (⟨l,h,v,true⟩::tr)
   |some (j,want)=>aa (au (nY n e0 ops l j==some want) (opA P C x.2 (evB n e0 l) h) h) fun v h'=>ih (qO n l x.2.dst v) h' fun tr=>k (⟨l,h,v,nY n e0 ops l j==some want⟩::tr)) os
def uu (ops:Array Oper) : ∀ (os:List (Nat×Oper)) (l:AL) (h:ae) (k:List Tb->AL->ae->Option α) (kk:List CG->aQ->ae->Option α),(∀ tr l h,k tr l h=kk (tr.map (Tb.up n e0)) (iq n e0 l) h) ->
  CL P C n e0 ops os l h k=traceK P C ops os (iq n e0 l) h kk
 | [],l,h,k,kk,hk=>hk [] l h
 |x::rest,l,h,k,kk,hk=>by
  show (match x.2.guard with
   |none=>aa (opA P C x.2 (evB n e0 l) h) fun v h'=>CL P C n e0 ops rest (qO n l x.2.dst v) h' fun tr=>k (⟨l,h,v,true⟩::tr)
   |some (j,want)=>aa (au (nY n e0 ops l j==some want) (opA P C x.2 (evB n e0 l) h) h) fun v h'=>CL P C n e0 ops rest (qO n l x.2.dst v) h' fun tr=>k (⟨l,h,v,nY n e0 ops l j==some want⟩::tr))=_
  unfold traceK;simp only [CY,AX];cases hg:x.2.guard with
  |none=>
   simp only
   congr 1
   funext v h'
   rw [uu ops rest (qO n l x.2.dst v) h' _ (fun tr=>kk (⟨iq n e0 l,h,v,true⟩::tr)) (fun tr l h=>by rw [hk];rfl),tv]
  |some g=>
   obtain ⟨j,want⟩:=g;simp only
   congr 1
   funext v h'
   rw [uu ops rest (qO n l x.2.dst v) h' _ (fun tr=>kk (⟨iq n e0 l,h,v,nY n e0 ops l j==some want⟩::tr)) (fun tr l h=>by rw [hk];rfl),tv]
def Cn (ops:Array Oper) (draw:Bool) (l:AL) (h:ae) (k:AL->ae->Option α):Option α:=
 match draw with
 |false=>opsB P C n e0 ops ops.toList l h k
 |true=>
  match pn P ops with
  |true=>opsB P C n e0 ops ((late P ops).map (·.2)) l h k
  |false=>match sE P ops (late P ops) with
   |true=>CL P C n e0 ops (late P ops) l h fun tr l' h'=>match dynB P C n e0 ops (late P ops) tr h' with
    |true=>k l' h'
    |false=>none
   |false=>none
def regionB_eq (ops:Array Oper) (draw:Bool) (l:AL) (h:ae) (k:AL->ae->Option α) (kk:aQ->ae->Option α) (hk : ∀ l h,k l h=kk (iq n e0 l) h) :
  Cn P C n e0 ops draw l h k=tc P C ops draw (iq n e0 l) h kk:=by
 unfold Cn tc;cases draw with
 |false=>exact Db P C n e0 ops _ l h k kk hk
 |true=>
  simp only;cases pn P ops with
  |true=>exact Db P C n e0 ops _ l h k kk hk
  |false=>
   simp only;cases sE P ops (late P ops) with
   |false=>rfl
   |true=>
    refine uu P C n e0 ops _ l h _ _ ?_;intro tr l h;rw [dynB_eq];cases ug P C ops (late P ops) (tr.map (Tb.up n e0)) h with
    |true=>exact hk l h
    |false=>rfl
def endN (o:Option (Ex×aQ×ae)) (n r:aQ->ae->Option α) (x:Nat->aQ->ae->Option α):Option α:=
 match o with
 |some (.normal,e',h')=>n e' h'
 |some (.ret,e',h')=>r e' h'
 |some (.exit i,e',h')=>x i e' h'
 |none=>none
def yj (c:Code):AL->ae->(AL->ae->Option α)->(aQ->ae->Option α)->(AL->ae->Option α)->(aQ->ae->Option α)->(Nat->AL->ae->Option α)->(Nat->aQ->ae->Option α)->Option α:=
 Code.rec (motive:=fun _=>AL->ae->(AL->ae->Option α)->(aQ->ae->Option α)->(AL->ae->Option α)->(aQ->ae->Option α)->(Nat->AL->ae->Option α)->(Nat->aQ->ae->Option α)->Option α)
  (fun l h k _ _ _ _ _=>k l h)
  (fun _ ops draw l h k _ _ _ _ _=>Cn P C n e0 ops draw l h k)
  (fun _ b ia ib l h k kE r rE x xE=>ia l h (fun l' h'=>ib l' h' k kE r rE x xE) (fun e' h'=>codeK P C b e' h' kE rE xE) r rE x xE)
  (fun q _ _ ia ib l h k kE r rE x xE=>match evB n e0 l q with
   | .bool true=>ia l h k kE r rE x xE
   | .bool false=>ib l h k kE r rE x xE
   |_=>none)
  (fun id _ ib l h k kE r rE x xE=>ib l h k kE r rE (fun i l' h'=>if i=id then k l' h' else x i l' h') (fun i e' h'=>if i=id then kE e' h' else xE i e' h'))
  (fun b _ l h _ _ _ rE _ xE=>fb (iter (codeA P C b) aK (iq n e0 l) h) rE xE)
  (fun g ps a b _ _ l h _ kE _ rE _ xE=>endN (codeA P C (.rangeFunc g ps a b) (iq n e0 l) h) kE rE xE)
  (fun i l h _ _ _ _ x _=>x i l h)
  (fun _ ib l h k kE r rE x xE=>ib l h k kE r rE x xE)
  (fun _ l h k _ _ _ _ _=>k l h)
  (fun _ _ _ _ _ _ _ _ _=>none)
  (fun l h _ _ r _ _ _=>r l h)
  (fun _ _ _ _ _ _ _ _ _=>none) c
def kG : ∀ (c:Code) (l:AL) (h:ae) (k:AL->ae->Option α) (kE:aQ->ae->Option α) (r:AL->ae->Option α) (rE:aQ->ae->Option α) (x:Nat->AL->ae->Option α) (xE:Nat->aQ->ae->Option α),
  (∀ l h,k l h=kE (iq n e0 l) h)->(∀ l h,r l h=rE (iq n e0 l) h)->(∀ i l h,x i l h=xE i (iq n e0 l) h) ->
  yj P C n e0 c l h k kE r rE x xE=codeK P C c (iq n e0 l) h kE rE xE
 | .skip,l,h,k,kE,r,rE,x,xE,hk,hr,hx=>hk l h
 | .region _ ops d,l,h,k,kE,r,rE,x,xE,hk,hr,hx=>regionB_eq P C n e0 ops d l h k kE hk
 | .seq a b,l,h,k,kE,r,rE,x,xE,hk,hr,hx=>by show yj P C n e0 a l h (fun l' h'=>yj P C n e0 b l' h' k kE r rE x xE) (fun e' h'=>codeK P C b e' h' kE rE xE) r rE x xE=_;exact kG a l h _ _ r rE x xE (fun l h=>kG b l h k kE r rE x xE hk hr hx) hr hx
 | .cond q a b,l,h,k,kE,r,rE,x,xE,hk,hr,hx=>by
   show (match evB n e0 l q with
    | .bool true=>yj P C n e0 a l h k kE r rE x xE
    | .bool false=>yj P C n e0 b l h k kE r rE x xE
    |_=>none)=_
   unfold codeK;rw [CY,kG a l h k kE r rE x xE hk hr hx,kG b l h k kE r rE x xE hk hr hx];try rfl
 | .block id b,l,h,k,kE,r,rE,x,xE,hk,hr,hx=>by show yj P C n e0 b l h k kE r rE (fun i l' h'=>if i=id then k l' h' else x i l' h') (fun i e' h'=>if i=id then kE e' h' else xE i e' h')=_;exact kG b l h k kE r rE _ _ hk hr (fun i l h=>by simp only [hk,hx])
 | .loop b,l,h,k,kE,r,rE,x,xE,hk,hr,hx=>rfl
 | .exit i,l,h,k,kE,r,rE,x,xE,hk,hr,hx=>hx i l h
 | .scope b,l,h,k,kE,r,rE,x,xE,hk,hr,hx=>kG b l h k kE r rE x xE hk hr hx
 | .label _,l,h,k,kE,r,rE,x,xE,hk,hr,hx=>hk l h
 | .ret,l,h,k,kE,r,rE,x,xE,hk,hr,hx=>hr l h
 | .goto _,l,h,k,kE,r,rE,x,xE,hk,hr,hx=>rfl
 | .rangeFunc g ps a b,l,h,k,kE,r,rE,x,xE,hk,hr,hx=>rfl
 | .refuse _,l,h,k,kE,r,rE,x,xE,hk,hr,hx=>rfl
def uw (c:Code) (h:ae) (kE rE:aQ->ae->Option α) (xE:Nat->aQ->ae->Option α):Option α:=
 yj P C n e0 c [] h (fun l h=>kE (iq n e0 l) h) kE (fun l h=>rE (iq n e0 l) h) rE (fun i l h=>xE i (iq n e0 l) h) xE
def uI (hn:Nat.beq e0.length n=true) (c:Code) (h:ae) (kE rE:aQ->ae->Option α) (xE:Nat->aQ->ae->Option α) :
  codeK P C c e0 h kE rE xE=uw P C n e0 c h kE rE xE:=by
 unfold uw;rw [kG P C n e0 c [] h (fun l h=>kE (iq n e0 l) h) kE (fun l h=>rE (iq n e0 l) h) rE (fun i l h=>xE i (iq n e0 l) h) xE (fun _ _=>rfl) (fun _ _=>rfl) (fun _ _ _=>rfl)];obtain rfl:=FZ hn;rw [expB_nil]
end
def bodyB (P:Program) (C:ah) (fn:Func) (args:List Vl) (h:ae):ba:=
 match fn.body with
 |none=>none
 |some c=>uw P C fn.ntmps (args++List.replicate (fn.ntmps-args.length) undef) c h (resultsA P fn.results.toList) (resultsA P fn.results.toList) (fun _ _ _=>none)
def aI (P:Program) (C:ah) (fn:Func) (args:List Vl) (h:ae) (hn:Nat.ble args.length fn.ntmps=true):aY P C fn args h=bodyB P C fn args h:=by
 unfold aY bodyB;cases fn.body with
 |none=>rfl
 |some c=>
  refine uI P C _ _ ?_ c h _ _ _;have:=EO hn;have h2:(args++List.replicate (fn.ntmps-args.length) undef).length=fn.ntmps:=by simp;omega
  rw [h2];exact Nat.beq_refl _
def lkT {P:Program} {C:ah} {f:Func} {l:List Vl} {h:ae} {r:ba} (a:Nat.ble l.length f.ntmps=true) (b:bodyB P C f l h=r):aY P C f l h=r:=(aI P C f l h a).trans b
def roundB (P:Program) (C:ah) (n:Nat) (b:Code) (e:aQ) (h:ae):Option (Ex×aQ×ae):=
 uw P C n e b h (fun e h=>some (.normal,e,h)) (fun e h=>some (.ret,e,h)) (fun i e h=>some (.exit i,e,h))
def roundB_eq (P:Program) (C:ah) (n:Nat) (b:Code) (e:aQ) (h:ae) (hn:Nat.beq e.length n=true):roundK P C b e h=roundB P C n b e h:=
 uI P C n e hn b h _ _ _
@[simp] theorem af {α : Type} (v : Vl) (h : ae) (k : Vl -> ae -> Option α) : aa (some (v, h)) k = k v h := rfl
@[simp] theorem thenV_none {α : Type} (k : Vl -> ae -> Option α) : aa none k = none := rfl
@[simp] theorem aj (v : Vl) (h : ae) : pu (some v) h = some (v, h) := rfl
@[simp] theorem az (o : ba) (h : ae) : au true o h = o := rfl
@[simp] theorem aG (o : ba) (h : ae) : au false o h = some (undef, h) := rfl
@[simp] theorem aH (b : Bool) : bC (.bool b) = some b := rfl
@[simp] theorem bOf_undef : bC undef = none := rfl
@[simp] theorem endL_ret {α : Type} (e : aQ) (h : ae) (r : aQ -> ae -> Option α) (x : Nat -> aQ -> ae -> Option α) : fb (some (.ret, e, h)) r x = r e h := rfl
@[simp] theorem bK {α : Type} (i : Nat) (e : aQ) (h : ae) (r : aQ -> ae -> Option α) (x : Nat -> aQ -> ae -> Option α) : fb (some (.exit i, e, h)) r x = x i e h := rfl
@[simp] theorem av (b o : Nat) : nilCheckA (ptr b o) = some (ptr b o) := rfl
@[simp] theorem ax (b o n : Nat) : aL (ptr b o) n = some (ptr b (o + n)) := rfl
@[simp] theorem cV (p : Option Addr) (n c : Nat) : cI (.slice p n c) = some (.int .i64 n) := rfl
@[simp] theorem lenS_string (s : ByteArray) : lenS (.string s) = some (.int .i64 s.size) := rfl
@[simp] theorem dp (b : Bool) : unA .not (.bool b) = some (.bool !b) := rfl
@[simp] theorem extractA_tuple (vs : Array Vl) (i : Nat) : extractA (.tuple vs) i = vs[i]? := rfl
@[simp] theorem bV (k j : IntKind) (n : Int) (h : ae) : iD k (.int j n) h = some (.int k (k.wrap n), h) := rfl
section
variable (P:Program) (t:TypeId) (k:IntKind) (a b:Int)
def ee (op:BinOp) (k':IntKind):aE P op t (.int k a) (.int k' b)=gV op k k' a b:=by cases op<;>rfl
@[simp] theorem dI : aE P .add t (.int k a) (.int k b) = some (.int k (k.wrap (a + b))) := by rw [ee]; simp [gV]
@[simp] theorem gu : aE P .sub t (.int k a) (.int k b) = some (.int k (k.wrap (a - b))) := by rw [ee]; simp [gV]
@[simp] theorem j8 : aE P .mul t (.int k a) (.int k b) = some (.int k (k.wrap (a * b))) := by rw [ee]; simp [gV]
def sP (hb:b≠0):aE P .quo t (.int k a) (.int k b)=some (.int k (k.wrap (a.tdiv b))):=by rw [ee];simp [gV,hb]
def vY (hb:b≠0):aE P .rem t (.int k a) (.int k b)=some (.int k (a.tmod b)):=by rw [ee];simp [gV,hb]
@[simp] theorem dm : aE P .eql t (.int k a) (.int k b) = some (.bool (a == b)) := by rw [ee]; simp [gV]
@[simp] theorem cS : aE P .neq t (.int k a) (.int k b) = some (.bool (a != b)) := by rw [ee]; simp [gV]
@[simp] theorem bU : aE P .lss t (.int k a) (.int k b) = some (.bool (decide (a < b))) := by rw [ee]; simp [gV]
@[simp] theorem nW : aE P .leq t (.int k a) (.int k b) = some (.bool (decide (a <= b))) := by rw [ee]; simp [gV]
@[simp] theorem dN : aE P .gtr t (.int k a) (.int k b) = some (.bool (decide (a > b))) := by rw [ee]; simp [gV]
@[simp] theorem dA : aE P .geq t (.int k a) (.int k b) = some (.bool (decide (a >= b))) := by rw [ee]; simp [gV]
end
def aP {h:ae} {b o:Nat} {k:eW} {c:Vl} (hg:h.get b=some k) (hc:k[o]? = some c) (hh:cw c=false:=by rfl):ld1 (ptr b o) h=some (c,h):=by unfold ld1 ptr;simp only [hg,hc,hh,D8]
def DE {h:ae} {b o n:Nat} {k:eW} (hg:h.get b=some k) (hc:o+n<=k.length) (hh:noHoles ((k.drop o).take n)=true):bZ n (ptr b o) h=some (.agg ((k.drop o).take n).toArray,h):=by unfold bZ ptr;simp only [hg,hc,hh,and_self,D8]
def iter_inv {step:aQ->ae->Option (Ex×aQ×ae)} {Inv:Nat->aQ->ae->Prop} {fin:Ex->aQ->ae->Prop}
  (hs : ∀ k e h,Inv k e h -> ∃ x e' h',step e h=some (x,e',h')/\((x = .normal /\ ∃ j,j<k/\Inv j e' h')\/(x ≠ .normal/\fin x e' h'))) :
  ∀ (k n:Nat) (e:aQ) (h:ae),k<n->Inv k e h -> ∃ x e' h',iter step n e h=some (x,e',h')/\fin x e' h':=by
 intro k;induction k using Nat.strongRecOn with
 |_ k ih=>
  intro n e h hn hi;obtain ⟨m,rfl⟩ : ∃ m,n=m+1:=⟨n-1,by omega⟩
  obtain ⟨x,e',h',h1,h2|h2⟩:=hs k e h hi
  ·obtain ⟨rfl,j,hj,hi2⟩:=h2;obtain ⟨x,e2,h3,h4,h5⟩:=ih j hj m e' h' (by omega) hi2;exact ⟨x,e2,h3,by simp only [iter,h1];exact h4,h5⟩
  ·refine ⟨x,e',h',?_,h2.2⟩;simp only [iter,h1];cases x with
   |normal=>exact absurd rfl h2.1
   |ret=>rfl
   |exit i=>rfl
def wrap_i64_if (x:Int):IntKind.wrap .i64 x=if 9223372036854775808<=x%18446744073709551616 then x%18446744073709551616-18446744073709551616 else x%18446744073709551616:=by unfold IntKind.wrap;simp [IntKind.bits,IntKind.signed]
def wrap_i64 {x:Int} (h1 : -9223372036854775808<=x) (h2:x<=9223372036854775807):IntKind.wrap .i64 x=x:=by rw [wrap_i64_if];split<;>omega
def wrap_u64 {x:Int} (h1:0<=x) (h2:x<18446744073709551616):IntKind.wrap .u64 x=x:=by simp only [IntKind.wrap,IntKind.bits,IntKind.signed,E4,DJ,D3];omega
def pz {x:Int} (h1:0<=x) (h2:x<4294967296):IntKind.wrap .u32 x=x:=by simp only [IntKind.wrap,IntKind.bits,IntKind.signed,E4,DJ,D3];omega
def yh {x:Int} (h1:0<=x) (h2:x<65536):IntKind.wrap .u16 x=x:=by simp only [IntKind.wrap,IntKind.bits,IntKind.signed,E4,DJ,D3];omega
def wrap_u8 {x:Int} (h1:0<=x) (h2:x<256):IntKind.wrap .u8 x=x:=by simp only [IntKind.wrap,IntKind.bits,IntKind.signed,E4,DJ,D3];omega
def fU (x:Int):IntKind.wrap .u8 x=x%256:=by simp only [IntKind.wrap,IntKind.bits,IntKind.signed,E4,DJ,D3];omega
def nT (x:Int):IntKind.wrap .u32 x=x%4294967296:=by simp only [IntKind.wrap,IntKind.bits,IntKind.signed,E4,DJ,D3];omega
def B8 (x:Int):IntKind.wrap .u16 x=x%65536:=by simp only [IntKind.wrap,IntKind.bits,IntKind.signed,E4,DJ,D3];omega
structure bJ (P:Program) (f:FuncId) (fn:Func):Prop where
 at_:P.funcs[f]? = some fn
 name : (fn.name == "runtime.NumGoroutine") = false
 some_:fn.body.isSome=true
 ok:codeOk P (al fn [])=true
def bJ.of {P : Program} {f : FuncId} {fn : Func} (e : (P.funcs[f]?, fn.name == "runtime.NumGoroutine", fn.body.isSome, codeOk P (al fn [])) = (some fn, false, true, true)) : bJ P f fn := by simp only [DQ] at e;exact ⟨e.1,e.2.1,e.2.2.1,e.2.2.2⟩
def bJ.body {P:Program} {f:FuncId} {fn:Func} (i:bJ P f fn):fn.body=some (al fn []):=by
 have:=i.some_;unfold al;cases h:fn.body with
 |none=>rw [h] at this;cases this
 |some c=>simp [nC]
def bq.mk' {P:Program} {C:ah} (hC:aZ P C) (hm:P.follows .mixedOrders=true) {f:FuncId} {fn:Func} (i:bJ P f fn) {s:List Vl->ae->ba}
  (told : ∀ args h v h',s args h=some (v,h')->bp h h'/\(cy h.next args=true->aA h->bR h'.next v=true/\aA h'))
  (body : ∀ args h v h',s args h=some (v,h')->cy h.next args=true->aA h -> ∃ v1 h1 r,aY P C fn args h=some (v1,h1)/\Gc h v h' v1 h1 r):bq P f s:=
 .of_body hC hm i.at_ i.name i.body i.ok (fun a h v h' e=>(told a h v h' e).1) (fun a h v h' e=>(told a h v h' e).2) (fun a h v h' e h1 h2 _=>body a h v h' e h1 h2)
def bq.quiet {P:Program} {C:ah} (hC:aZ P C) (hm:P.follows .mixedOrders=true) {f:FuncId} {fn:Func} (i:bJ P f fn) {s:List Vl->ae->ba}
  (told : ∀ args h v h',s args h=some (v,h')->h'=h /\ ∀ n,bR n v=true)
  (body : ∀ args h v h',s args h=some (v,h')->cy h.next args=true->aA h -> ∃ h1,aY P C fn args h=some (v,h1) /\ ∀ b k,h.getB b=some k->h1.getB b=some k):bq P f s:=by
 refine .mk' hC hm i ?_ ?_
 ·intro args h v h' e;obtain ⟨rfl,h2⟩:=told _ _ _ _ e;exact ⟨bp.refl _,fun _ h3=>⟨h2 _,h3⟩⟩
 ·intro args h v h' e h1 h2;obtain ⟨rfl,h3⟩:=told _ _ _ _ e;obtain ⟨g,h4,h5⟩:=body _ _ _ _ e h1 h2;exact ⟨v,g,id,h4,.none (h3 _) h2 (fun b k _ h6=>h5 b k h6)⟩
def lkF (x:Nat->Vl) (l:AL) (t:Nat):Vl:=
 List.rec (motive:=fun _=>Vl) (x t) (fun p _ ih=>Bool.rec (motive:=fun _=>Vl) ih p.2 (Nat.beq p.1 t)) l
def mkE (n:Nat) (x:Nat->Vl) (l:AL):aQ:=(List.range n).map (lkF x l)
def bs (l:List Vl):Nat->Vl:=fun i=>l.getD i undef
@[simp] theorem lkF_nil (x : Nat -> Vl) (t : Nat) : lkF x [] t = x t := rfl
def lkF_cons (x:Nat->Vl) (p:Nat×Vl) (l:AL) (t:Nat):lkF x (p::l) t=if p.1=t then p.2 else lkF x l t:=by
 show Bool.rec (motive:=fun _=>Vl) (lkF x l t) p.2 (Nat.beq p.1 t)=_;cases hb:Nat.beq p.1 t with
 |true=>rw [DR (FZ hb)]
 |false=>rw [DU (F6 hb)]
@[simp] theorem mkE_length (n : Nat) (x : Nat -> Vl) (l : AL) : (mkE n x l).length = n := by simp [mkE]
def jz (w n:Nat):BitVec.ofInt w (n:Int)=BitVec.ofNat w n:=by simp
section
variable (P:Program) (t:TypeId)
def BY {k:IntKind} (hk:k.signed=false) (n:Nat) (hn:n<2^k.bits):IntKind.wrap k (n:Int)=n:=by
 unfold IntKind.wrap;simp only [hk,E4,DJ,D3];have:((2:Int)^k.bits)=((2^k.bits:Nat):Int):=by simp
 rw [this,<-Int.natCast_emod,FT hn]
def jH {k:IntKind} (hk:k.signed=false) {a b:Nat} (ha:a<2^k.bits) (hb:b<2^k.bits):aE P .xor t (.int k a) (.int k b)=some (.int k ((a ^^^ b:Nat):Int)):=by rw [ee];simp only [gV,ne_eq,not_true,D3,oj,jz,BitVec.toNat_xor,FY,FT ha,FT hb];rw [BY hk _ (GN ha hb)]
def pd {k:IntKind} (hk:k.signed=false) {a b:Nat} (ha:a<2^k.bits) (hb:b<2^k.bits):aE P .and t (.int k a) (.int k b)=some (.int k ((a &&& b:Nat):Int)):=by rw [ee];simp only [gV,ne_eq,not_true,D3,oj,jz,BitVec.toNat_and,FY,FT ha,FT hb];rw [BY hk _ (Nat.and_lt_two_pow a hb)]
def yP {k:IntKind} (hk:k.signed=false) {a b:Nat} (ha:a<2^k.bits) (hb:b<2^k.bits):aE P .or t (.int k a) (.int k b)=some (.int k ((a ||| b:Nat):Int)):=by rw [ee];simp only [gV,ne_eq,not_true,D3,oj,jz,BitVec.toNat_or,FY,FT ha,FT hb];rw [BY hk _ (Nat.or_lt_two_pow ha hb)]
def dx {k k':IntKind} {a b:Nat} (hb:b<=k.bits):aE P .shr t (.int k a) (.int k' b)=some (.int k ((a/2^b:Nat):Int)):=by
 rw [ee];have h1 : ¬((b:Int)<0):=by omega
 simp only [gV,h1,D3,Int.toNat_natCast,GD hb];have:((2:Int)^b)=((2^b:Nat):Int):=by simp
 rw [this,Int.fdiv_eq_ediv_of_nonneg _ (Int.natCast_nonneg _)];rfl
end
structure aw (h h':ae) (B:Nat->Prop):Prop where
 n0:h'.n0=h.n0
 next:h.next<=h'.next
 getB : ∀ c,c<h.next -> ¬B c->h'.getB c=h.getB c
def aw.get {h h':ae} {B:Nat->Prop} (x:aw h h' B) (c:Nat) (hc:c<h.next) (hB : ¬B c):h'.get c=h.get c:=by unfold ae.get;rw [x.getB c hc hB]
def aw.obj {h h':ae} {B:Nat->Prop} (x:aw h h' B) {c:Nat} {o:fl} (g:h.getB c=some (.obj o)) (hB : ¬B c):h'.getB c=some (.obj o):=(x.getB c (h.lt_of_getB g) hB).trans g
def aw.refl (h:ae) (B:Nat->Prop):aw h h B:=⟨rfl,DO _,fun _ _ _=>rfl⟩
def aw.trans {a b c:ae} {B:Nat->Prop} (x:aw a b B) (y:aw b c B):aw a c B:=
 ⟨y.n0.trans x.n0,ED x.next y.next,fun d hd hb=>(y.getB d (FC hd x.next) hb).trans (x.getB d hd hb)⟩
def aw.mono {a b:ae} {B B':Nat->Prop} (x:aw a b B) (hB : ∀ c,c<a.next->B c->B' c):aw a b B':=
 ⟨x.n0,x.next,fun d hd hb=>x.getB d hd (fun h=>hb (hB d hd h))⟩
def aw.alloc (h:ae) (k:eW) (B:Nat->Prop):aw h (h.alloc k) B:=
 ⟨rfl,by simp,fun c hc _=>by rw [ae.dt,DU (by omega)]⟩
def aw.set {h:ae} {b:Nat} {k k':eW} {B:Nat->Prop} (hb:h.n0<=b) (hg:h.get b=some k) (hB:h.next<=b\/B b):aw h (h.set b k') B:=
 ⟨rfl,by simp,fun c hc hn=>by
  by_cases e:c=b
  ·subst e;rcases hB with h1|h1
   ·omega
   ·exact absurd h1 hn
  ·exact ae.cq hb (h.aW hg) _ e⟩
def splice_one (k:List Vl) (o:Nat) (v:Vl) (ho:o<k.length):splice k o [v]=k.set o v:=by unfold splice;rw [List.set_eq_take_append_cons_drop,DR ho];simp
def dK {h:ae} {b o:Nat} {k:eW} {v:Vl} (hg:h.get b=some k) (ho:o<k.length) (hn:h.n0<=b) (hc:v.cells = #[v]) (hv:v.oneCell'=true) :
  bX 1 (ptr b o) v h=some (undef,h.set b (k.set o v)):=by
 unfold bX ptr;simp only [hc,E7,List.length_cons,List.length_nil,DK,D8];unfold stL;simp only [hg,List.length_cons,List.length_nil,DK];rw [DR (by simp [hn,aN,hv];omega),splice_one k o v ho];rfl
def aT (n:Nat) (x:Nat->Vl):aQ:=(List.range n).map x
def up (x:Nat->Vl) (l:AL):Nat->Vl:=lkF x l
@[simp] theorem kZ (x : Nat -> Vl) (t : Nat) : up x [] t = x t := rfl
def gN (x:Nat->Vl) (s:Nat) (v:Vl) (l:AL) (t:Nat):up x ((s,v)::l) t=if s=t then v else up x l t:=lkF_cons ..
@[simp] theorem wD (n : Nat) (x : Nat -> Vl) : (aT n x).length = n := by simp [aT]
def aF {P:Program} {C:ah} {n:Nat} {b:Code} {T:(Nat->Vl)->ae->Option (Ex×aQ×ae)} (hT : ∀ x h,roundB P C n b (aT n x) h=T x h) (x:Nat->Vl) (h:ae) :
  codeA P C b (aT n x) h=T x h:=by
 rw [<-roundK_eq,roundB_eq P C n b _ h (by rw [wD];exact Nat.beq_refl n),<-hT]
def bI {α:Type} {P:Program} {C:ah} {n:Nat} {b:Code} {kE rE:aQ->ae->Option α} {xE:Nat->aQ->ae->Option α} {T:(Nat->Vl)->ae->Option α}
  (hT : ∀ x h,uw P C n (aT n x) b h kE rE xE=T x h) (x:Nat->Vl) (h:ae) :
  codeK P C b (aT n x) h kE rE xE=T x h:=by
 rw [uI P C n (aT n x) (by rw [wD];exact Nat.beq_refl n),<-hT]
def tf {P:Program} {C:ah} {n:Nat} {b:Code} {T:(Nat->Vl)->ae->Option (Ex×aQ×ae)} (hT : ∀ x h,codeA P C b (aT n x) h=T x h)
  {Inv:Nat->(Nat->Vl)->ae->Prop} {fin:Ex->(Nat->Vl)->ae->Prop}
  (hs : ∀ k x h,Inv k x h -> ∃ ex x' h',T x h=some (ex,aT n x',h')/\((ex = .normal /\ ∃ j,j<k/\Inv j x' h')\/(ex ≠ .normal/\fin ex x' h')))
  {k:Nat} {x:Nat->Vl} {h:ae} (hk:k<aK) (hi:Inv k x h) :
  ∃ ex x' h',iter (codeA P C b) aK (aT n x) h=some (ex,aT n x',h')/\fin ex x' h':=by
 obtain ⟨ex,e',h',h1,x',rfl,h2⟩:=iter_inv (step:=codeA P C b) (Inv:=fun k e h => ∃ x,e=aT n x/\Inv k x h) (fin:=fun ex e h => ∃ x,e=aT n x/\fin ex x h)
  (by
   rintro k _ h ⟨x,rfl,hi⟩;obtain ⟨ex,x',h',h1,h2⟩:=hs k x h hi;refine ⟨ex,aT n x',h',(hT x h).trans h1,?_⟩;rcases h2 with ⟨h2,j,hj,h3⟩|⟨h2,h3⟩
   ·exact .inl ⟨h2,j,hj,x',rfl,h3⟩
   ·exact .inr ⟨h2,x',rfl,h3⟩)
  k aK (aT n x) h hk ⟨x,rfl,hi⟩
 exact ⟨ex,x',h',h1,h2⟩
def sw (P : Program) (fn : Func) : Bool := !(fn.name == "runtime.NumGoroutine") && match fn.body with | some c => codeOk P c | none => false
section
variable {P:Program} {C:ah}
def ld_bd {t:TypeId} {x v:Vl} {h h':ae} (hb:aA h) (hx:bR h.next x=true) (e:ld P t x h=some (v,h')):bR h.next v=true:=by
 have hC:aZ P (fun _ _ _=>none):=⟨by simp,by simp,by simp,by simp⟩
 have:=yU (P:=P) (C:=fun _ _ _=>none) (o:={ dst:=none,type:=0,op := .load t (.const x),after := #[],guard:=none,pos:=default }) (ρ:=fun o=>match o with | .const v=>v|_=>undef) hC hb
  (by
   intro y hy;have:y = .const x:=by simpa [Op.operands] using hy
   subst this;exact hx) (v:=v) (h':=h') e
 have hh:h'=h:=by
  unfold ld at e;split at e
  ·unfold bZ at e;split at e
   ·split at e
    ·split at e
     ·cases e;rfl
     ·cases e
    ·cases e
   ·cases e
  ·unfold ld1 at e
   repeat' split at e
   all_goals first
    | (cases e;done)
    | (simp only [DH,DQ] at e;exact e.2.symm)
  ·cases e
 subst hh;exact this.1
def xa {r:ResultVar} {e:aQ} {h:ae} {v:Vl} (hb:aA h) (he:cy h.next e=true) (x:dy P r e h=some v):bR h.next v=true:=by
 have key : ∀ t,bR h.next (e.getD t undef)=true:=by
  intro t;rw [DV];cases ht:e[t]? with
  |none=>rfl
  |some y=>exact dM.1 he y (EC ht)
 cases r with
 |tmp t=>simp only [dy,DH] at x;subst x;exact key t
 |cell a t=>
  simp only [dy,DT] at x;obtain ⟨⟨y,h'⟩,h1,rfl⟩:=x;exact ld_bd hb (key a) h1
def vy {rs:List ResultVar} {e:aQ} {h h':ae} {v:Vl} (hb:aA h) (he:cy h.next e=true) (x:resultsA P rs e h=some (v,h')):bR h'.next v=true/\aA h':=by
 have hh:=gY x;subst hh;refine ⟨?_,hb⟩;unfold resultsA at x;split at x
 ·simp only [DT,DQ] at x;obtain ⟨v1,hv1,rfl,_⟩:=x;exact xa hb he hv1
 ·simp only [DT,DQ] at x;obtain ⟨vs,hvs,rfl,_⟩:=x;show cy _ vs=true;rw [dM];intro y hy;have : ∀ (rs:List ResultVar) (vs:List Vl),rs.mapM (fun r=>dy P r e h')=some vs -> ∀ y∈vs,bR h'.next y=true:=by
   intro rs;induction rs with
   |nil=>intro vs hvs y hy;simp at hvs;subst hvs;cases hy
   |cons r rs ih=>
    intro vs hvs y hy;simp only [FW,Option.bind_eq_bind,D4,Option.pure_def,DH] at hvs;obtain ⟨a,ha,b,hb2,rfl⟩:=hvs;rcases EN.1 hy with rfl|hy
    ·exact xa hb he ha
    ·exact ih b hb2 y hy
  exact this _ _ hvs y hy
def bodyA_grow (hC:aZ P C) {fn:Func} {args:List Vl} {h h':ae} {v:Vl} (he:bodyA P C fn args h=some (v,h')):bp h h':=by
 unfold bodyA at he;split at he
 ·cases he
 ·rename_i c hb;cases hc:codeA P C c (args++List.replicate (fn.ntmps-args.length) undef) h with
  |none=>rw [hc] at he;cases he
  |some y=>
   obtain ⟨ex,e1,h2⟩:=y;rw [hc] at he;have hgrow:resultsA P fn.results.toList e1 h2=some (v,h'):=by
    cases ex with
    |normal=>exact he
    |ret=>exact he
    |exit i=>cases he
   rw [gY hgrow];exact bN hC c hc
def bodyA_bd (hC:aZ P C) {fn:Func} {args:List Vl} {h h':ae} {v:Vl} (hok:sw P fn=true) (hg:P.globals.size<=h.n0) (he:bodyA P C fn args h=some (v,h')) (hba:cy h.next args=true) (hbh:aA h) :
  bR h'.next v=true/\aA h':=by
 unfold bodyA at he;split at he
 ·cases he
 ·rename_i c hb;have hco:codeOk P c=true:=by unfold sw at hok;rw [hb] at hok;simp only [DN] at hok;exact hok.2
  cases hc:codeA P C c (args++List.replicate (fn.ntmps-args.length) undef) h with
  |none=>rw [hc] at he;cases he
  |some y=>
   obtain ⟨ex,e1,h2⟩:=y;rw [hc] at he;have hr:resultsA P fn.results.toList e1 h2=some (v,h'):=by
    cases ex with
    |normal=>exact he
    |ret=>exact he
    |exit i=>cases he
   obtain ⟨h3,h4⟩:=dF hC c hco hg (bT hba (dM.2 fun x hx=>by rw [EZ hx];rfl)) hbh hc;exact vy h4 h3 hr
end
def bare (P:Program):ae:=⟨P.globals.size,fun _=>none,.nil,0⟩
def puK (v:Option Vl) (h:ae):ba:=v.map fun v=>(v,h)
def pickK (c a b:Vl) (h:ae):ba:=
 match c with
 | .bool t=>some (if t then a else b,h)
 |_=>none
def funcK (f:Fn) (first captured:Array Vl) (h:ae):ba:=
 match f with
 | .yield _=>none
 |f=>some (.func f first captured,h)
def callK (P:Program) (C:ah) (c:Call) (ρ:Operand->Vl) (h:ae):ba:=
 match c.callee with
 | .builtin b=>builtinA P b c.argTypes.toList (c.args.toList.map ρ) h
 | .value f=>callA P C (ρ f) (c.args.toList.map ρ) h
 | .invoke _ _=>none
def binIK (op:BinOp):IntKind->IntKind->Int->Int->Option Vl:=
 BinOp.rec (motive:=fun _=>IntKind->IntKind->Int->Int->Option Vl)
  (fun k k' a b=>if k≠k' then none else some (.int k (k.wrap (a+b))))
  (fun k k' a b=>if k≠k' then none else some (.int k (k.wrap (a-b))))
  (fun k k' a b=>if k≠k' then none else some (.int k (k.wrap (a*b))))
  (fun k k' a b=>gV .quo k k' a b)
  (fun k k' a b=>gV .rem k k' a b)
  (fun k k' a b=>gV .and k k' a b)
  (fun k k' a b=>gV .or k k' a b)
  (fun k k' a b=>gV .xor k k' a b)
  (fun k k' a b=>gV .shl k k' a b)
  (fun k k' a b=>gV .shr k k' a b)
  (fun k k' a b=>gV .andNot k k' a b)
  (fun k k' a b=>if k≠k' then none else some (.bool (a==b)))
  (fun k k' a b=>if k≠k' then none else some (.bool (a != b)))
  (fun k k' a b=>if k≠k' then none else some (.bool (a<b)))
  (fun k k' a b=>if k≠k' then none else some (.bool (a<=b)))
  (fun k k' a b=>if k≠k' then none else some (.bool (a>b)))
  (fun k k' a b=>if k≠k' then none else some (.bool (a>=b)))
  op
def binIK_eq (op:BinOp) (k k':IntKind) (a b:Int):binIK op k k' a b=gV op k k' a b:=by cases op<;>rfl
def binK (P:Program) (op:BinOp) (t:TypeId) (x y:Vl):Option Vl:=
 match x with
 | .int k a=>match y with
   | .int k' b=>binIK op k k' a b
   |y=>aE P op t (.int k a) y
 |x=>aE P op t x y
def binK_eq (P:Program) (op:BinOp) (t:TypeId) (x y:Vl):binK P op t x y=aE P op t x y:=by
 unfold binK;split
 ·split
  ·rw [binIK_eq,ee]
  ·rfl
 ·rfl
def CI (op:Op):Program->ah->(Operand->Vl)->ae->ba:=
 Op.rec (motive:=fun _=>Program->ah->(Operand->Vl)->ae->ba)
   (fun x _P _C ρ h=>some (ρ x,h))
   (fun x _P _C ρ h=>some (ρ x,h))
   (fun c a b _P _C ρ h=>pickK (ρ c) (ρ a) (ρ b) h)
   (fun t P _C _ρ h=>zero P t h)
   (fun _t x _P _C ρ h=>box (ρ x) h)
   (fun t parts P _C ρ h=>puK (buildA P t (parts.toList.map fun (i,x)=>(i,ρ x))) h)
   (fun t len parts P _C ρ h=>buildSliceA P t len (parts.toList.map fun (i,x)=>(i,ρ x)) h)
   (fun t m k v P _C ρ h=>mapUpdateA P t (ρ m) (ρ k) (ρ v) h)
   (fun t x P _C ρ h=>ld P t (ρ x) h)
   (fun t x v P _C ρ h=>st P t (ρ x) (ρ v) h)
   (fun _g _P _C _ρ _h=>none)
   (fun _g _P _C _ρ _h=>none)
   (fun x _P _C ρ h=>puK (nilCheckA (ρ x)) h)
   (fun op t x y _t P _C ρ h=>puK (binK P op t (ρ x) (ρ y)) h)
   (fun op _t x _P _C ρ h=>puK (unA op (ρ x)) h)
   (fun s d x P _C ρ h=>convA P s d (ρ x) h)
   (fun _t _x _P _C _ρ _h=>none)
   (fun t x P _C ρ h=>puK (ifaceA P t (ρ x)) h)
   (fun f first captured _P _C ρ h=>funcK f (first.map ρ) (captured.map ρ) h)
   (fun t r P _C ρ h=>eY (r.map ρ) P t h)
   (fun _t _x _P _C _ρ _h=>none)
   (fun t l c P _C ρ h=>makeA P t (ρ l) (ρ c) h)
   (fun t x lo hi mx P _C ρ h=>puK (sliceA P t (ρ x) (lo.map ρ) (hi.map ρ) (mx.map ρ)) h)
   (fun t x i P _C ρ h=>puK (fieldAtA P t (ρ x) i) h)
   (fun t x i P _C ρ h=>puK (fieldA P t (ρ x) i) h)
   (fun t x i P _C ρ h=>puK (indexAtA P t (ρ x) (ρ i)) h)
   (fun t x i P _C ρ h=>puK (indexA P t (ρ x) (ρ i)) h)
   (fun t x k ok P _C ρ h=>lookupA P t (ρ x) (ρ k) ok h)
   (fun t m k v P _C ρ h=>mapUpdateA P t (ρ m) (ρ k) (ρ v) h)
   (fun t m k P _C ρ h=>iA P t (ρ m) (ρ k) h)
   (fun _t m s v _P _C ρ h=>entryStoreA (ρ m) (ρ s) (ρ v) h)
   (fun t x P _C ρ h=>rangeA P t (ρ x) h)
   (fun it str _P _C ρ h=>nextA (ρ it) str h)
   (fun it _P _C ρ h=>entryA (ρ it) h)
   (fun x _t t ok P _C ρ h=>puK (assertA P t ok (ρ x)) h)
   (fun t i _P _C ρ h=>puK (extractA (ρ t) i) h)
   (fun c P C ρ h=>callK P C c ρ h)
   (fun _c _P _C _ρ _h=>none)
   (fun _c _P _C _ρ _h=>none)
   (fun _x _P _C _ρ _h=>none)
   (fun _a _b _P _C _ρ _h=>none)
   (fun _t _c _b _P _C _ρ _h=>none)
   (fun _a _b _P _C _ρ _h=>none)
   op
def opK_eq (P:Program) (C:ah) (o:Oper) (ρ:Operand->Vl) (h:ae):CI o.op P C ρ h=opA P C o ρ h:=by
 obtain ⟨dst,op,type,pos,after,guard⟩:=o;cases op
 case binOp op t x y z=>
  show puK (binK P op t (ρ x) (ρ y)) h=_;rw [binK_eq];rfl
 case makeFunc f first captured=>cases f<;>rfl
 case call c=>
  cases c with
  |mk callee=>cases callee<;>rfl
 all_goals rfl
end
end Go.Abs
