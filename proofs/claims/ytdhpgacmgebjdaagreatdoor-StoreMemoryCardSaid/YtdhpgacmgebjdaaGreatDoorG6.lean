/-
  A part of the proof, shortened by a program.
  Conditions: as each theorem states.
-/
import Derived.Test.YtdhpgacmgebjdaaGreatDoorG5
import Derived.LoopNIn
set_option linter.all false
namespace Go.Abs
noncomputable section
def exOf:Ex->Exit
 | .normal => .normal
 | .ret => .ret
 | .exit i => .exit i
section code
variable {P:Program} {C:ah}
def jI {l:Nat} {e e':aO} {h h':ae} {x:Ex} (he:endLoopA l e h=some (x,e',h')) :
  ∃ st pend tmps params assign body,h.getB l=some (.obj (.loop st pend tmps params assign body))/\st ≠ .busy/\x=pend.getD .normal/\e'=e/\h'=h.setO l (.loop .exhausted pend tmps params assign body):=by
 unfold endLoopA at he;split at he
 ·rename_i st pend tmps params assign body hg;split at he
  ·cases he
  ·rename_i hb;cases he;exact ⟨st,pend,tmps,params,assign,body,hg,hb,rfl,rfl,rfl⟩
 ·cases he
def mB {g:Operand} {params:Array Tmp} {assign body:Code} {e e':aO} {h h':ae} {x:Ex} (he:codeA P C (.rangeFunc g params assign body) e h=some (x,e',h')) :
  ∃ i first captured v h2, ev e g = .func (.func i) first captured ∧ (∃ fn, P.funcs[i]? = some fn ∧ (fn.name == "runtime.NumGoroutine") = false ∧ fn.body.isNone = false) ∧
   C i (first.toList ++ [.func (.yield h.next) #[] #[]]++captured.toList) (h.ba (.obj (.loop .ready none e params.toList assign body)))=some (v,h2)/\endLoopA h.next e h2=some (x,e',h'):=by
 simp only [codeA] at he;split at he
 ·rename_i i first captured hev
  split at he
  ·rename_i hi;split at he
   ·rename_i v h2 hc;refine ⟨i,first,captured,v,h2,hev,?_,hc,he⟩;unfold hasBody at hi;split at hi
    ·rename_i fn hf;rw [DD,GI] at hi;exact ⟨fn,hf,hi.2,by rw [Option.isNone_eq_false_iff];exact hi.1⟩
    ·cases hi
   ·cases he
  ·cases he
 ·cases he
def vd (hC:bk P C) {ops:Array Oper} : ∀ (l:List Oper) {e e':aO} {h h':ae},opsA P C ops l e h=some (e',h')->bH h h'
 | [],e,e',h,h',he=>by simp only [opsA,DA,DF] at he;obtain ⟨_,rfl⟩:=he;exact bH.refl _
 |o::l,e,e',h,h',he=>by
  simp only [opsA] at he;split at he
  ·rename_i e1 h1 hs;unfold stepA at hs;split at hs
   ·split at hs
    ·rename_i v hv hop;cases hs;exact (kW hC hop).trans (vd hC l he)
    ·cases hs
   ·cases hs;exact vd hC l he
  ·cases he
def Bw (hC:bk P C) {ops:Array Oper} {d:Bool} {e e':aO} {h h':ae} (he:regionA P C ops d e h=some (e',h')):bH h h':=by
 unfold regionA at he;split at he
 ·split at he
  ·split at he
   ·rename_i tr e1 h1 htr;split at he
    ·simp only [DA,DF] at he;obtain ⟨rfl,rfl⟩:=he;obtain ⟨E,H,V,R,e0,h0,en,hn,T,_⟩:=qS htr;rw [<-h0,<-hn];exact T.grow hC (FL _) (DG _)
    ·cases he
   ·cases he
  ·cases he
 ·exact vd hC _ he
def uP {step:aO->ae->Option (Ex×aO×ae)} (hs : ∀ e h x e' h',step e h=some (x,e',h')->bH h h') : ∀ (n:Nat) {e e':aO} {h h':ae} {x:Ex},iter step n e h=some (x,e',h')->bH h h'
 | 0,e,e',h,h',x,he=>by cases he
 |n+1,e,e',h,h',x,he=>by
  simp only [iter] at he;split at he
  ·rename_i e1 h1 h2;exact (hs _ _ _ _ _ h2).trans (uP hs n he)
  ·exact hs _ _ _ _ _ he
def bV (hC:bk P C) : ∀ (c:Code) {e e':aO} {h h':ae} {x:Ex},codeA P C c e h=some (x,e',h')->bH h h'
 | .skip,e,e',h,h',x,he=>by simp only [codeA,DA,DF] at he;obtain ⟨_,_,rfl⟩:=he;exact bH.refl _
 | .region _ ops d,e,e',h,h',x,he=>by
   simp only [codeA] at he;split at he
   ·rename_i e1 h1 h2;cases he;exact Bw hC h2
   ·cases he
 | .seq a b,e,e',h,h',x,he=>by
   simp only [codeA] at he;split at he
   ·rename_i e1 h1 h2;exact (bV hC a h2).trans (bV hC b he)
   ·exact bV hC a he
 | .cond c a b,e,e',h,h',x,he=>by
   simp only [codeA] at he;split at he
   ·exact bV hC a he
   ·exact bV hC b he
   ·cases he
 | .block i b,e,e',h,h',x,he=>by
   simp only [codeA] at he;split at he
   ·rename_i j e1 h1 h2;simp only [DA,DF] at he;obtain ⟨_,_,rfl⟩:=he;exact bV hC b h2
   ·exact bV hC b he
 | .loop b,e,e',h,h',x,he=>by simp only [codeA] at he;exact uP (fun _ _ _ _ _ h=>bV hC b h) _ he
 | .exit _,e,e',h,h',x,he=>by simp only [codeA,DA,DF] at he;obtain ⟨_,_,rfl⟩:=he;exact bH.refl _
 | .scope b,e,e',h,h',x,he=>by simp only [codeA] at he;exact bV hC b he
 | .label _,e,e',h,h',x,he=>by simp only [codeA,DA,DF] at he;obtain ⟨_,_,rfl⟩:=he;exact bH.refl _
 | .ret,e,e',h,h',x,he=>by simp only [codeA,DA,DF] at he;obtain ⟨_,_,rfl⟩:=he;exact bH.refl _
 | .goto _,e,e',h,h',x,he=>by cases he
 | .rangeFunc ..,e,e',h,h',x,he=>by obtain ⟨i,first,captured,v,h2,_,_,hc,hl⟩:=mB he;obtain ⟨_,_,_,_,_,_,_,_,_,_,rfl⟩:=jI hl;exact ((bH.allocO _ _).trans (hC.grow _ _ _ _ _ hc)).trans (bH.setO _ _ _)
 | .refuse _,e,e',h,h',x,he=>by cases he
def Cu (hC:bk P C) {ops:Array Oper} : ∀ (l:List Oper) {e e':aO} {h h':ae},l.all (pX P)=true->P.globals.size<=h.n0->cT h.next e=true->aE h->opsA P C ops l e h=some (e',h')->cT h'.next e'=true/\aE h'
 | [],e,e',h,h',_,_,he,hh,h1=>by simp only [opsA,DA,DF] at h1;obtain ⟨rfl,rfl⟩:=h1;exact ⟨he,hh⟩
 |o::l,e,e',h,h',hok,hg,he,hh,h1=>by
  simp only [List.all_cons,DD] at hok;simp only [opsA] at h1;split at h1
  ·rename_i e1 h2 hs;unfold stepA at hs;split at hs
   ·split at hs
    ·rename_i v hv hop;cases hs;have hgr:=kW hC hop;obtain ⟨g1,g2⟩:=BV hC hh (fun x hm=>AJ hg he (DQ.1 hok.1 x hm)) hop;exact Cu hC l hok.2 (by rw [hgr.2.1];exact hg) (re (cy hgr.1 he) g1) g2 h1
    ·cases hs
   ·cases hs;exact Cu hC l hok.2 hg (re he rfl) hh h1
  ·cases h1
def regionA_bd (hC:bk P C) {ops:Array Oper} {d:Bool} {e e':aO} {h h':ae} (hok:ops.toList.all (pX P)=true) (hg:P.globals.size<=h.n0) (hbe:cT h.next e=true) (hbh:aE h)
  (he:regionA P C ops d e h=some (e',h')):cT h'.next e'=true/\aE h':=by
 unfold regionA at he;split at he
 ·split at he
  ·split at he
   ·rename_i tr e1 h1 htr;split at he
    ·simp only [DA,DF] at he;obtain ⟨rfl,rfl⟩:=he;obtain ⟨E,H,V,R,e0,h0,en,hn,T,_⟩:=qS htr;rw [<-en,<-hn];exact T.bd hC (by rw [h0];exact hg) (fun p x hx=>DQ.1 hok x.2 (by rw [GK];exact G8 (xK.1 (D7 hx)))) (by rw [h0,e0];exact hbe) (by rw [h0];exact hbh) _ (DG _)
    ·cases he
   ·cases he
  ·cases he
 ·exact Cu hC _ hok hg hbe hbh he
def iter_bd (hC:bk P C) {b:Code} (hb : ∀ e h x e' h',P.globals.size<=h.n0->cT h.next e=true->aE h->codeA P C b e h=some (x,e',h')->cT h'.next e'=true/\aE h') :
  ∀ (n:Nat) {e e':aO} {h h':ae} {x:Ex},P.globals.size<=h.n0->cT h.next e=true->aE h->iter (codeA P C b) n e h=some (x,e',h')->cT h'.next e'=true/\aE h'
 | 0,e,e',h,h',x,_,_,_,he=>by cases he
 |n+1,e,e',h,h',x,hg,hbe,hbh,he=>by
  simp only [iter] at he;split at he
  ·rename_i e1 h1 h2;obtain ⟨g1,g2⟩:=hb _ _ _ _ _ hg hbe hbh h2;exact iter_bd hC hb n (by rw [(bV hC b h2).2.1];exact hg) g1 g2 he
  ·exact hb _ _ _ _ _ hg hbe hbh he
def dN (hC:bk P C) : ∀ (c:Code) {e e':aO} {h h':ae} {x:Ex},codeOk P c=true->P.globals.size<=h.n0->cT h.next e=true->aE h->codeA P C c e h=some (x,e',h')->cT h'.next e'=true/\aE h'
 | .skip,e,e',h,h',x,_,_,hbe,hbh,he=>by simp only [codeA,DA,DF] at he;obtain ⟨_,rfl,rfl⟩:=he;exact ⟨hbe,hbh⟩
 | .region _ ops d,e,e',h,h',x,hok,hg,hbe,hbh,he=>by
   simp only [codeOk] at hok;simp only [codeA] at he;split at he
   ·rename_i e1 h1 h2;cases he;exact regionA_bd hC hok hg hbe hbh h2
   ·cases he
 | .seq a b,e,e',h,h',x,hok,hg,hbe,hbh,he=>by
   simp only [codeOk,DD] at hok;simp only [codeA] at he;split at he
   ·rename_i e1 h1 h2;obtain ⟨g1,g2⟩:=dN hC a hok.1 hg hbe hbh h2;exact dN hC b hok.2 (by rw [(bV hC a h2).2.1];exact hg) g1 g2 he
   ·exact dN hC a hok.1 hg hbe hbh he
 | .cond c a b,e,e',h,h',x,hok,hg,hbe,hbh,he=>by
   simp only [codeOk,DD] at hok;simp only [codeA] at he;split at he
   ·exact dN hC a hok.1.2 hg hbe hbh he
   ·exact dN hC b hok.2 hg hbe hbh he
   ·cases he
 | .block i b,e,e',h,h',x,hok,hg,hbe,hbh,he=>by
   simp only [codeOk] at hok;simp only [codeA] at he;split at he
   ·rename_i j e1 h1 h2;simp only [DA,DF] at he;obtain ⟨_,rfl,rfl⟩:=he;exact dN hC b hok hg hbe hbh h2
   ·exact dN hC b hok hg hbe hbh he
 | .loop b,e,e',h,h',x,hok,hg,hbe,hbh,he=>by simp only [codeOk] at hok;simp only [codeA] at he;exact iter_bd hC (fun _ _ _ _ _ h1 h2 h3 h4=>dN hC b hok h1 h2 h3 h4) _ hg hbe hbh he
 | .exit _,e,e',h,h',x,_,_,hbe,hbh,he=>by simp only [codeA,DA,DF] at he;obtain ⟨_,rfl,rfl⟩:=he;exact ⟨hbe,hbh⟩
 | .scope b,e,e',h,h',x,hok,hg,hbe,hbh,he=>by simp only [codeOk] at hok;simp only [codeA] at he;exact dN hC b hok hg hbe hbh he
 | .label _,e,e',h,h',x,_,_,hbe,hbh,he=>by simp only [codeA,DA,DF] at he;obtain ⟨_,rfl,rfl⟩:=he;exact ⟨hbe,hbh⟩
 | .ret,e,e',h,h',x,_,_,hbe,hbh,he=>by simp only [codeA,DA,DF] at he;obtain ⟨_,rfl,rfl⟩:=he;exact ⟨hbe,hbh⟩
 | .goto _,e,e',h,h',x,_,_,_,_,he=>by cases he
 | .rangeFunc g params assign body,e,e',h,h',x,hok,hg,hbe,hbh,he=>by
   simp only [codeOk] at hok;obtain ⟨i,first,captured,v,h2,hev,hi,hc,hl⟩:=mB he;obtain ⟨st,pend,tmps,ps,as,bo,hgl,_,_,rfl,rfl⟩:=jI hl;have hv:=AJ hg hbe hok;rw [hev] at hv;obtain ⟨lf⟩:=first
   obtain ⟨lc⟩:=captured;simp only [b9,DD] at hv;have hal:aE (h.ba (.obj (.loop .ready none e' params.toList assign body))):=hbh.allocO (cy (HH _) hbe);obtain ⟨h3,h4⟩:=hC.bd _ _ _ _ _ hc (cL (cL (cy (by simp) hv.2.1) (by simp [cT,b9,bdF])) (cy (by simp) hv.2.2)) hal;have hgr:=hC.grow _ _ _ _ _ hc;have hob:=h4.obj _ _ hgl;refine ⟨cy ?_ hbe,h4.setO (h2.bS hgl) hgl hob⟩;have:=hgr.1;simp only [ae.fY] at this;simp only [ae.mW];omega
 | .refuse _,e,e',h,h',x,_,_,_,_,he=>by cases he
def jf (rs:List Nat):List Deferred:=rs.map fun r=>{ target := .collected r,args := #[] }
structure ud (s:Nat) (μ:Mu) (h:ae) (w:World) (rs:List Nat):Prop where
 dup:rs.Nodup
 at_ : ∀ r∈rs,s<=r/\w.heap[r]? = some (.deferred (some [])) /\ ¬Ci μ h r
def ud.step {s:Nat} {μ μ':Mu} {h h':ae} {w w':World} {rs:List Nat} (m:ud s μ h w rs) (st:ct μ h w μ' h' w'):ud s μ' h' w' rs:=by
 refine ⟨m.dup,fun r hr => ?_⟩;obtain ⟨h1,h2,h3⟩:=m.at_ r hr;have hlt:=(DT.1 h2).1;refine ⟨h1,by rw [st.same r hlt h3];exact h2,fun ho => ?_⟩;rcases st.own r ho with h4|h4
 ·exact h3 h4
 ·omega
def RoOk (ro:Option Nat) (w:World):Prop := ∀ l,ro=some l -> ∃ r,w.heap[l]? = some (Obj.loop r)
def RoOk.step {ro:Option Nat} {μ μ':Mu} {h h':ae} {w w':World} (m:RoOk ro w) (st:ct μ h w μ' h' w'):RoOk ro w':=fun l hl=>by obtain ⟨r,hr⟩:=m l hl;exact st.loops l r hr
def qF (s:Nat) (μ:Mu) (h:ae) (w:World) (e':aO) (h':ae) (a':Act) (w':World):Prop:=
 ∃ μ' rs,cD μ' h' w'/\ct μ h w μ' h' w'/\jU (jf rs) μ' e' a'/\ud s μ' h' w' rs
def xu (P:Program) (C:ah) (c:Code):Prop:=
 ∀ (ro:Option Nat) (nd s:Nat) (rs:List Nat) (e e':aO) (h h':ae) (x:Ex) (μ:Mu) (a:Act) (w:World) (Q:Exit->Act->World->Prop),codeA P C c e h=some (x,e',h')->P.globals.size<=h.n0->cT h.next e=true->aE h->cD μ h w->fi μ h h' ->
   jU (jf rs) μ e a->ud s μ h w rs->s<=w.heap.size->RoOk ro w->(∀ a' w',qF s μ h w e' h' a' w'->Q (exOf x) a' w')->c.wpIn (Fr ro) nd P Q a w
def qF.trans {s:Nat} {μ μ1:Mu} {h h1 h2:ae} {w w1 w2:World} {e2:aO} {a2:Act} (st:ct μ h w μ1 h1 w1) (b:qF s μ1 h1 w1 e2 h2 a2 w2):qF s μ h w e2 h2 a2 w2:=by obtain ⟨μ2,rs,hS,hSt,hr,hm⟩:=b;exact ⟨μ2,rs,hS,st.trans hSt,hr,hm⟩
def rR.m {s:Nat} {rs:List Nat} {μ:Mu} {h h':ae} {w w':World} {e':aO} {a':Act} (m:ud s μ h w rs) (b:rR (jf rs) μ h w e' h' a' w'):qF s μ h w e' h' a' w':=by obtain ⟨μ',hS,hSt,hr⟩:=b;exact ⟨μ',rs,hS,hSt,hr,m.step hSt⟩
def zm {F:Fence} {n:Nat} {Q:Exit->Act->World->Prop} {c:Code} (k:Nat) (a:Act) (w:World):Code.roundsIn F n P c Q (k+1) a w=c.wpIn F n P (Exit.then (Code.roundsIn F n P c Q k) Q) a w:=rfl
def Ar (hC:bk P C) {b:Code} (hb:xu P C b)
  (hbd : ∀ e h x e' h',P.globals.size<=h.n0->cT h.next e=true->aE h->codeA P C b e h=some (x,e',h')->cT h'.next e'=true/\aE h') : ∀ (n:Nat) {e e':aO} {h h':ae} {x:Ex} {ro:Option Nat} {nd s:Nat} {rs:List Nat} {μ:Mu} {a:Act} {w:World} {Q:Exit->Act->World->Prop},iter (codeA P C b) n e h=some (x,e',h') ->
  P.globals.size<=h.n0->cT h.next e=true->aE h->cD μ h w->fi μ h h'->jU (jf rs) μ e a->ud s μ h w rs->s<=w.heap.size->RoOk ro w->(∀ a' w',qF s μ h w e' h' a' w'->Q (exOf x) a' w')->Code.roundsIn (Fr ro) nd P b Q n a w
 | 0,_,_,_,_,_,_,_,_,_,_,_,_,_,he,_,_,_,_,_,_,_,_,_,_=>by cases he
 |n+1,e,e',h,h',x,ro,nd,s,rs,μ,a,w,Q,he,hg,hbe,hbh,S,hf,r,hmk,hsz,hro,hQ=>by
  rw [zm];simp only [iter] at he;split at he
  ·rename_i e1 h1 h2;have hgr:=bV hC b h2;have hgr2:=uP (fun _ _ _ _ _ h=>bV hC b h) _ he;refine hb _ _ s rs _ _ _ _ _ _ _ _ _ h2 hg hbe hbh S (hf.first hgr2.1) r hmk hsz hro ?_;rintro a1 w1 ⟨μ1,rs1,hS,hSt,hr,hmk1⟩;exact Ar hC hb hbd n he (by rw [hgr.2.1];exact hg) (hbd _ _ _ _ _ hg hbe hbh h2).1 (hbd _ _ _ _ _ hg hbe hbh h2).2 hS (hf.nO hSt) hr hmk1 (D9 hsz hSt.size) (hro.step hSt) (fun a' w' hb'=>hQ a' w' (hb'.trans hSt))
  ·rename_i hne;refine hb _ _ s rs _ _ _ _ _ _ _ _ _ he hg hbe hbh S hf r hmk hsz hro ?_;intro a1 w1 hb1;have hq:=hQ a1 w1 hb1;cases x with
   |normal=>exact absurd he (hne _ _)
   |ret=>exact hq
   |exit i=>exact hq
def uK {w:World} {l₀:Nat} {r₀:Loop} (fn:FuncId) (tmps:Array Vl) (ps:Array Tmp) (assign body:Code) (hr:w.heap[l₀]? = some (Obj.loop r₀)) :
  (Instr.enterLoop fn tmps ps assign body (some l₀)).run P w =
   .ok (w.heap.size,[]) (w.alloc (.loop { state := .ready,pending:=none,fn,tmps,params:=ps,assign,body,defers:=r₀.defers })):=by
 unfold Instr.enterLoop;simp only [bind_assoc,pure_bind,Sem.run_bind,run_getLoop hr,run_newObj_alloc,Result.andThen,Sem.run_pure]
section scope
variable {b:Frame} {a:Act} {k:List Item} {cs:List Frame} {w:World}
def iS {c:Code}:step P (lone (b.atR a (.code (.scope c)::k)) cs w) = .next (lone (b.atR a (.code c :: .inScope c::k)) cs w):=
 step_lone_go (by simp [stepG,stepG.exec,Frame.atR])
def Ab {c:Code}:step P (lone (b.atR a (.inScope c::k)) cs w) = .next (lone (b.atR a k) cs w):=
 step_lone_go (by simp [stepG,stepG.exec,Frame.atR])
def rB {F:Fence} {n:Nat} {Q:Exit->Act->World->Prop} {c:Code} (h:c.wpIn F n P (Exit.noGoto Q) a w):(Code.scope c).wpIn F n P Q a w:=by
 intro b k cs hro hb hr;have h0:(lone (b.atR a (.code (.scope c)::k)) cs w).fenced P F:=fenced_calm hb hr rfl;obtain ⟨e,a₁,w₁,hq,harr⟩:=h b (.inScope c::k) cs hro hb hr;cases e with
 |normal=>exact ⟨.normal,a₁,w₁,hq,.head h0 iS (StepsIn.trans harr (.one (fenced_calm hb hr rfl) Ab))⟩
 |exit id=>
  have hx:exitTo id (.inScope c::k)=exitTo id k:=by simp [exitTo]
  exact ⟨.exit id,a₁,w₁,hq,fun k' hk => .head h0 iS (harr.1 k' (by rw [hx];exact hk)),
   fun hr' hk=>let ⟨k₁,h1,h2⟩:=harr.2 hr' (by rw [hx];exact hk);⟨k₁,h1,.head h0 iS h2⟩⟩
 |goto l=>exact hq.elim
 |ret=>exact ⟨_,a₁,w₁,hq,.of_steps (.one h0 iS) harr⟩
 |panic ch=>exact ⟨_,a₁,w₁,hq,.of_steps (.one h0 iS) harr⟩
 |outgrown=>exact ⟨_,a₁,w₁,hq,.of_steps (.one h0 iS) harr⟩
end scope
def code_of_ex {F:Fence} {n:Nat} {Q:Exit->Act->World->Prop} {a:Act} {w:World} {x:Ex} (h:Q (exOf x) a w):(exCode x).wpIn F n P Q a w:=by
 cases x with
 |normal=>exact wpIn_skip h
 |ret=>exact wpIn_ret h
 |exit i=>exact wpIn_exit h
def range_good (hC:bk P C) {g:Operand} {params:Array Tmp} {assign body:Code} (hok:codeOk P (.rangeFunc g params assign body)=true):xu P C (.rangeFunc g params assign body):=by
 intro ro nd s rs e e' h h' x μ a w Q he hg hbe hbh S hf r hmk hsz hro hQ;simp only [codeOk] at hok;obtain ⟨i,first,captured,v,h2,hev,⟨fn0,hfn,hname,hbody⟩,hc,hl⟩:=mB he;have hi:i<P.funcs.size:=(DT.1 hfn).1;obtain ⟨st,pend,tmps,ps,as,bo,hgl,hst,rfl,rfl,rfl⟩:=jI hl;have hgr:=hC.grow _ _ _ _ _ hc;have hgr1:h.next+1<=h2.next:=by have:=hgr.1;simpa using this
 have hbv:=AJ hg hbe hok;have hal:aE (h.ba (.obj (.loop .ready none e' params.toList assign body))):=hbh.allocO (cy (HH _) hbe);have hrv:=CO S hg r hok;rw [hev] at hbv hrv;obtain ⟨fg,first',captured',hfe,hfg,hr1,hr2⟩:=hrv.zp;cases hfg;have hba:cT (h.ba (.obj (.loop .ready none e' params.toList assign body))).next (first.toList ++ [.func (.yield h.next) #[] #[]]++captured.toList)=true:=by
  obtain ⟨lf⟩:=first
  obtain ⟨lc⟩:=captured;simp only [b9,DD] at hbv;exact cL (cL (cy (by simp) hbv.2.1) (by simp [cT,b9,bdF])) (cy (by simp) hbv.2.2)
 have hfree1:fi μ h (h.ba (.obj (.loop .ready none e' params.toList assign body))):=fun b h1 h3=>hf b h1 (by simp at h3;simp only [ae.mW];omega);have main : ∀ (fn:FuncId) (l:Nat) (rs':List Nat) (w1:World) (ob:Loop),(Instr.enterLoop fn a.tmps params assign body ro).run P w = .ok (l,jf rs') w1->w.heap.size<=l->w1.heap.size=l+1 ->
   (∀ C,C<w.heap.size->w1.heap[C]? = w.heap[C]?)->w1.heap[l]? = some (Obj.loop ob)->w1.os=w.os->w1.tape=w.tape->w1.output=w.output->w.drawn<=w1.drawn ->
   ob.state = .ready->ob.pending=none->ob.tmps=a.tmps->ob.params=params->ob.assign=assign->ob.body=body ->
   (∀ r∈rs',w.heap.size<=r/\r≠l/\w1.heap[r]? = some (.deferred (some [])))->rs'.Nodup ->
   ∃ (l:Nat) (mark:List Deferred) (w₁:World) (d:Deferred) (w₁':World) (f:FuncId) (args:Array Vl) (w₂:World),
   (Instr.enterLoop fn a.tmps params assign body (Fr ro).round).run P w = .ok (l,mark) w₁ /\
   (resolve a.eval (rangeCall g l) 0).run P w₁ = .ok d w₁' /\
   (∀ f',Target.leads P w₁' d.target d.args=some f'->(Fr ro).fn f') /\
   (invoke d.target d.args).run P w₁' = .ok (.enter f args) w₂ /\
   ((Fr ro).depth.isSome=true->1<=nd) /\
   CallsIn (Fr ro) (nd-1) P f args w₂ (rangePost (Fr ro) nd P l Q { a with defers:=mark++a.defers }):=by
  intro fn l rs' w1 ob hent hl1 hl2 hold hnew ho ht hp hdw q1 q2 q3 q4 q5 q6 hrs hnd;obtain ⟨S1,St1⟩:=S.allocO (o := .loop .ready none e' params.toList assign body) hfree1 (ob := .loop ob) (w1:=w1) (B:=l) ho ht hp hl1 hl2 hold hnew
   ⟨q1,by rw [q2];rfl,by rw [q3];exact r.1.mono (Mu.np (hfree1 _ (DG _) (by simp))),by rw [q4],q5,q6⟩ hdw
  have hmono:=Mu.np (L:=⟨l,0,0,0⟩) (hfree1 _ (DG _) (by simp));have hyl:aF (μ.put h.next ⟨l,0,0,0⟩) (.func (.yield h.next) #[] #[]) (.func (.yield l) #[] #[]) := .func ⟨_,Mu.cI _ _ _,rfl⟩ rfl (by simp) rfl (by simp);have hall:=((hr1.mono hmono).append (aT.cons hyl (aT.nil _))).append (hr2.mono hmono);have hfree2:fi (μ.put h.next ⟨l,0,0,0⟩) (h.ba (.obj (.loop .ready none e' params.toList assign body))) h2:=(fi.nO (h'':=h2) (fun b h1 h3=>hf b h1 h3) St1)
  have hcalls:=(hC.run _ _ _ _ _ hc hi hba hal (by simpa using hg) _ w1 _ S1 hfree2 hall).fE hfn hname hbody;refine ⟨l,jf rs',w1,{ target := .fn (.func i) captured',args:=first' ++ #[.func (.yield l) #[] #[]] },w1,i,_,w1,hent,?_,fun _ _=>trivial,?_,(fun h=>by cases h),(calls_fr (r:=ro) (n:=nd-1) hcalls).mono ?_⟩
  ·unfold resolve;simp only [hfe,Deferred.ofValue,List.map_toArray,FD,List.map_nil,show a.eval (.const (.func (.yield l) #[] #[])) = .func (.yield l) #[] #[] from rfl];rfl
  ·simp only [invoke,callFunc,Sem.run_bind,run_program,Result.andThen_ok,hfn,hname,hbody,DB,DS,Sem.run_pure]
   congr 2
   apply IJ;simp
  ·rintro en w3 ⟨μ3,v3,rfl,S3,St3,hv3⟩;have hμ3:μ3 h.next=some ⟨l,0,0,0⟩:=St3.mono hfree2 _ _ (Mu.cI _ _ _);obtain ⟨L,ob3,g1,g2,g3,g4,g5⟩:=S3.obj h.next _ (h2.bS hgl) hgl;rw [hμ3] at g1;cases g1;cases ob3 with
   |loop r3=>
    obtain ⟨k1,k2,k3,k4,k5,k6⟩:=g3;have hend:(Instr.endLoop l).run P w3 = .ok r3.pending (w3.putObj l (.loop { r3 with state := .exhausted })):=run_endLoop g2 (by rw [k1];exact hst);refine ⟨r3.pending,_,hend,?_⟩;obtain ⟨S4,St4⟩:=S3.setO (o' := .loop .exhausted pend tmps ps as bo) (ob' := .loop { r3 with state := .exhausted }) hgl hμ3 ⟨rfl,k2,k3,k4,k5,k6⟩;have StA:=(St1.trans St3).trans St4;have hq:Q (exOf (pend.getD .normal)) { a with defers:=jf rs'++a.defers } (w3.putObj l (.loop { r3 with state := .exhausted })):=by
     refine hQ _ _ ⟨μ3,rs'++rs,S4,StA,⟨?_,?_⟩,?_⟩
     ·exact r.1.mono (StA.mono hf)
     ·rw [r.2];simp [jf]
     ·have hm1:=hmk.step StA;have hnew2 : ∀ r∈rs',¬Ci μ h r:=by rintro r hr ⟨b,k,L,o1,o2,o3,o4⟩;obtain ⟨L2,ob2,p1,p2,p3⟩:=S.place o1 o2;rw [p1] at o3;cases o3;have:=(DT.1 p2).1;have:=(hrs r hr).1;omega
      have own1 : ∀ r∈rs',¬Ci (μ.put h.next ⟨l,0,0,0⟩) (h.ba (.obj (.loop .ready none e' params.toList assign body))) r:=by
       rintro r hr ⟨b,k,L,o1,o2,o3,o4⟩;rw [h.bK] at o2;by_cases eb:b=h.next
       ·subst eb;rw [Mu.cI] at o3;cases o3;exact (hrs r hr).2.1 o4.symm
       ·rw [DL eb] at o2;rw [Mu.cW _ _ eb] at o3;exact hnew2 r hr ⟨b,k,L,o1,o2,o3,o4⟩
      have mk1:ud s (μ.put h.next ⟨l,0,0,0⟩) (h.ba (.obj (.loop .ready none e' params.toList assign body))) w1 rs':=
       ⟨hnd,fun r hr=>⟨D9 hsz (hrs r hr).1,(hrs r hr).2.2,own1 r hr⟩⟩
      have mk2:=mk1.step (St3.trans St4);refine ⟨?_,fun r hr => ?_⟩
      ·rw [List.nodup_append];refine ⟨hnd,hmk.dup,fun x hx y hy e => ?_⟩;have h5:=(hrs x hx).1;have h6:=(DT.1 (hmk.at_ y hy).2.1).1;omega
      ·rcases D8.1 hr with h5|h5
       ·exact mk2.at_ r h5
       ·exact hm1.at_ r h5
    generalize w3.putObj l (.loop { r3 with state := .exhausted })=W at hq |-;generalize r3.pending=q at k2 |-;subst k2;cases pend with
    |none=>exact hq
    |some y=>exact code_of_ex hq
   |_=>exact g3.elim
 refine wpIn_rangeFunc fun fn _ => ?_;cases ro with
 |none=>
  refine main fn (w.heap.size+1) [w.heap.size] _ _ (run_enterLoop_outer fn a.tmps params assign body) (HH _) (by simp) ?_ (by have:=World.alloc_heap_new (w.alloc (.deferred (some []))) (.loop { state := .ready,pending:=none,fn,tmps:=a.tmps,params,assign,body,defers:=w.heap.size });simpa using this) rfl rfl rfl (DG _) rfl rfl rfl rfl rfl rfl ?_ (by simp)
  ·intro C hC;rw [gI _ _ _ (by simp;omega),gI _ _ _ hC]
  ·intro r hr;rw [FB.1 hr];refine ⟨DG _,by omega,?_⟩;rw [gI _ _ _ (by simp)];exact World.alloc_heap_new w _
 |some l₀=>
  obtain ⟨r₀,hr₀⟩:=hro l₀ rfl;exact main fn w.heap.size [] _ _ (uK fn a.tmps params assign body hr₀) (DG _) (by simp) (fun C hC=>gI _ _ _ hC) (World.alloc_heap_new w _) rfl rfl rfl (DG _) rfl rfl rfl rfl rfl rfl (by simp) (by simp)
def dp (hC:bk P C) (hm:P.follows .mixedOrders=true) : ∀ (c:Code),codeOk P c=true->xu P C c
 | .skip,_=>by intro ro nd s rs e e' h h' x μ a w Q he hg hbe hbh S hf r hmk hsz hro hQ;simp only [codeA,DA,DF] at he;obtain ⟨rfl,rfl,rfl⟩:=he;exact wpIn_skip (hQ a w ⟨μ,rs,S,.cq,r,hmk⟩)
 | .region id ops d,hok=>by
   intro ro nd s rs e e' h h' x μ a w Q he hg hbe hbh S hf r hmk hsz hro hQ;simp only [codeOk] at hok;simp only [codeA] at he;split at he
   ·rename_i e1 h1 h2;cases he;cases d with
    |true=>exact ua hC hm hok h2 hg hbe hbh S hf r (fun a' w' hb=>hQ a' w' (hb.m hmk))
    |false=>exact uI hC hok (by simpa [regionA] using h2) hg hbe hbh S hf r (fun a' w' hb=>hQ a' w' (hb.m hmk))
   ·cases he
 | .seq b c,hok=>by
   intro ro nd s rs e e' h h' x μ a w Q he hg hbe hbh S hf r hmk hsz hro hQ;simp only [codeOk,DD] at hok;simp only [codeA] at he;refine wpIn_seq ?_;split at he
   ·rename_i e1 h1 h2;have hgr:=bV hC b h2;have hgr2:=bV hC c he;refine dp hC hm b hok.1 _ _ s rs _ _ _ _ _ _ _ _ _ h2 hg hbe hbh S (hf.first hgr2.1) r hmk hsz hro ?_;rintro a1 w1 ⟨μ1,rs1,hS,hSt,hr,hmk1⟩;exact dp hC hm c hok.2 _ _ s rs1 _ _ _ _ _ _ _ _ _ he (by rw [hgr.2.1];exact hg) (dN hC b hok.1 hg hbe hbh h2).1 (dN hC b hok.1 hg hbe hbh h2).2 hS (hf.nO hSt) hr hmk1 (D9 hsz hSt.size) (hro.step hSt) (fun a' w' hb'=>hQ a' w' (hb'.trans hSt))
   ·rename_i hne;refine dp hC hm b hok.1 _ _ s rs _ _ _ _ _ _ _ _ _ he hg hbe hbh S hf r hmk hsz hro ?_;intro a1 w1 hb1;have hq:=hQ a1 w1 hb1;cases x with
    |normal=>exact absurd he (hne _ _)
    |ret=>exact hq
    |exit i=>exact hq
 | .cond c x y,hok=>by
   intro ro nd s rs e e' h h' ex μ a w Q he hg hbe hbh S hf r hmk hsz hro hQ;simp only [codeOk,DD] at hok;simp only [codeA] at he;have hv:=CO S hg r hok.1.1;split at he
   ·rename_i h1;rw [h1] at hv;exact wpIn_cond_true hv.bool (dp hC hm x hok.1.2 _ _ s rs _ _ _ _ _ _ _ _ _ he hg hbe hbh S hf r hmk hsz hro hQ)
   ·rename_i h1;rw [h1] at hv;exact wpIn_cond_false hv.bool (dp hC hm y hok.2 _ _ s rs _ _ _ _ _ _ _ _ _ he hg hbe hbh S hf r hmk hsz hro hQ)
   ·cases he
 | .block id b,hok=>by
   intro ro nd s rs e e' h h' x μ a w Q he hg hbe hbh S hf r hmk hsz hro hQ;simp only [codeOk] at hok;simp only [codeA] at he;refine wpIn_block ?_;split at he
   ·rename_i j e1 h1 h2;simp only [DA,DF] at he;obtain ⟨rfl,rfl,rfl⟩:=he;refine dp hC hm b hok _ _ s rs _ _ _ _ _ _ _ _ _ h2 hg hbe hbh S hf r hmk hsz hro ?_;intro a' w' hb';have hq:=hQ a' w' hb';simp only [exOf,Exit.inBlock];by_cases hj:j=id
    ·rw [DH hj] at hq |-;exact hq
    ·rw [DL hj] at hq |-;exact hq
   ·rename_i hne;refine dp hC hm b hok _ _ s rs _ _ _ _ _ _ _ _ _ he hg hbe hbh S hf r hmk hsz hro ?_;intro a' w' hb';have hq:=hQ a' w' hb';cases x with
    |normal=>exact hq
    |ret=>exact hq
    |exit i=>exact absurd he (hne _ _ _)
 | .loop b,hok=>by intro ro nd s rs e e' h h' x μ a w Q he hg hbe hbh S hf r hmk hsz hro hQ;simp only [codeOk] at hok;simp only [codeA] at he;exact wpIn_loop_rounds _ (Ar hC (dp hC hm b hok) (fun _ _ _ _ _ h1 h2 h3 h4=>dN hC b hok h1 h2 h3 h4) _ he hg hbe hbh S hf r hmk hsz hro hQ)
 | .exit i,_=>by intro ro nd s rs e e' h h' x μ a w Q he hg hbe hbh S hf r hmk hsz hro hQ;simp only [codeA,DA,DF] at he;obtain ⟨rfl,rfl,rfl⟩:=he;exact wpIn_exit (hQ a w ⟨μ,rs,S,.cq,r,hmk⟩)
 | .scope b,hok=>by intro ro nd s rs e e' h h' x μ a w Q he hg hbe hbh S hf r hmk hsz hro hQ;simp only [codeOk] at hok;simp only [codeA] at he;refine rB (dp hC hm b hok _ _ s rs _ _ _ _ _ _ _ _ _ he hg hbe hbh S hf r hmk hsz hro ?_);intro a' w' hb';have hq:=hQ a' w' hb';cases x<;>exact hq
 | .label _,_=>by intro ro nd s rs e e' h h' x μ a w Q he hg hbe hbh S hf r hmk hsz hro hQ;simp only [codeA,DA,DF] at he;obtain ⟨rfl,rfl,rfl⟩:=he;exact wpIn_label (hQ a w ⟨μ,rs,S,.cq,r,hmk⟩)
 | .ret,_=>by intro ro nd s rs e e' h h' x μ a w Q he hg hbe hbh S hf r hmk hsz hro hQ;simp only [codeA,DA,DF] at he;obtain ⟨rfl,rfl,rfl⟩:=he;exact wpIn_ret (hQ a w ⟨μ,rs,S,.cq,r,hmk⟩)
 | .goto _,hok=>by simp [codeOk] at hok
 | .rangeFunc g params assign body,hok=>range_good hC hok
 | .refuse _,hok=>by simp [codeOk] at hok
def jJ {rs:List ResultVar} {e:aO} {h h':ae} {v:Vl} (he:resultsA P rs e h=some (v,h')):h'=h:=by
 unfold resultsA at he;split at he
 ·simp only [DJ,DF] at he;obtain ⟨_,_,_,rfl⟩:=he;rfl
 ·simp only [DJ,DF] at he;obtain ⟨_,_,_,rfl⟩:=he;rfl
def resV (tmps:Array Vl):ResultVar->Sem Vl
 | .tmp t=>pure (tmps.getD t undef)
 | .cell b t=>do loadVar t (<-asAddr (tmps.getD b undef))
def zg (fn:Func) (tmps:Array Vl):results fn tmps=(do let vs <-fn.results.mapM (resV tmps);pure (if h:vs.size=1 then vs[0] else .tuple vs)):=rfl
def zV {D:List Deferred} {μ:Mu} {h:ae} {w:World} {e:aO} {a:Act} (S:cD μ h w) (r:jU D μ e a) {x:ResultVar} {v:Vl} (hv:dy P x e h=some v) :
  ∃ v',(resV a.tmps x).run P w = .ok v' w/\aF μ v v':=by
 cases x with
 |tmp t=>
  simp only [dy,DA] at hv;subst hv;refine ⟨_,rfl,?_⟩;have:=r.1.getD t;simpa using this
 |cell b t=>
  simp only [dy,DJ] at hv;obtain ⟨⟨v1,h1⟩,hl,rfl⟩:=hv;have hr:aF μ (e.getD b undef) (a.tmps.getD b undef):=by have:=r.1.getD b;simpa using this
  obtain ⟨_,r',hrun,hv'⟩:=ld_sound S hr hl;refine ⟨r',?_,hv'⟩;simp only [resV,Instr.loadAt,Sem.run_bind] at hrun |-;cases hx:a.tmps.getD b undef with
  |pointer p=>
   rw [hx] at hrun;cases p with
   |none=>simp [Instr.sureAddr] at hrun
   |some q=>simpa [Instr.sureAddr,asAddr] using hrun
  |_=>rw [hx] at hrun;simp [Instr.sureAddr] at hrun
def mapM_rel {D:List Deferred} {μ:Mu} {h:ae} {w:World} {e:aO} {a:Act} (S:cD μ h w) (r:jU D μ e a) : ∀ {rs:List ResultVar} {vs:List Vl},rs.mapM (fun r=>dy P r e h)=some vs ->
  ∃ vs',(rs.mapM (resV a.tmps)).run P w = .ok vs' w/\aT μ vs vs'
 | [],vs,hv=>by simp at hv;subst hv;exact ⟨[],by simp,aT.nil μ⟩
 |x::rs,vs,hv=>by rw [FJ] at hv;simp only [bind,DU,pure,DA] at hv;obtain ⟨v,hv1,vs1,hv2,rfl⟩:=hv;obtain ⟨v',h1,h2⟩:=zV S r hv1;obtain ⟨vs',h3,h4⟩:=mapM_rel S r hv2;refine ⟨v'::vs',?_,aT.cons h2 h4⟩;rw [FJ,Sem.run_bind];rw [h1];simp only [Result.andThen_ok,Sem.run_bind];rw [h3];simp
def vu {α β:Type} {f:α->Option β} : ∀ {l:List α} {r:List β},l.mapM f=some r->l.length=r.length
 | [],r,h=>by simp at h;subst h;rfl
 |x::l,r,h=>by rw [FJ] at h;simp only [bind,DU,pure,DA] at h;obtain ⟨a,_,r1,h2,rfl⟩:=h;simp [vu h2]
def xk {D:List Deferred} {μ:Mu} {h h':ae} {w:World} {e:aO} {a:Act} (S:cD μ h w) (r:jU D μ e a) {fn:Func} {v:Vl} (hv:resultsA P fn.results.toList e h=some (v,h')) :
  ∃ v',(results fn a.tmps).run P w = .ok v' w/\aF μ v v':=by
 have main : ∀ {vs:List Vl},fn.results.toList.mapM (fun r=>dy P r e h)=some vs -> ∃ vs',(fn.results.mapM (resV a.tmps)).run P w = .ok vs'.toArray w/\aT μ vs vs':=by intro vs hvs;obtain ⟨vs',h1,h2⟩:=mapM_rel S r hvs;refine ⟨vs',?_,h2⟩;rw [Array.mapM_eq_mapM_toList,Sem.run_map,h1];rfl
 unfold resultsA at hv;split at hv
 ·rename_i x hx;simp only [DJ,DF] at hv;obtain ⟨v1,hv1,rfl,rfl⟩:=hv;obtain ⟨vs',h1,h2⟩:=main (vs := [v1]) (by rw [hx];simp [hv1]);have hl:=h2.1
  match vs',hl with
  | [v'],_=>
    refine ⟨v',?_,h2.head⟩;rw [zg,Sem.run_bind];rw [h1];simp
 ·rename_i hne;simp only [DJ,DF] at hv;obtain ⟨vs,hvs,rfl,rfl⟩:=hv;obtain ⟨vs',h1,h2⟩:=main hvs;refine ⟨.tuple vs'.toArray,?_,.cU h2⟩;rw [zg,Sem.run_bind];rw [h1];simp only [Result.andThen_ok,Sem.run_pure];have hlen:vs'.length≠1:=by rw [<-h2.1,<-vu hvs];intro h1';obtain ⟨x,hx⟩:=List.length_eq_one_iff.1 h1';exact hne x hx
  rw [dif_neg (by simpa using hlen)]
end code
def aa {α:Type} (r:aY) (k:Vl->ae->Option α):Option α:=
 match r with
 |some (v,h)=>k v h
 |none=>none
def al (g:Bool) (o:aY) (h:ae):aY:=
 match g with
 |true=>o
 |false=>some (undef,h)
def opsK {α:Type} (P:Program) (C:ah) (ops:Array Oper):List Oper->aO->ae->(aO->ae->Option α)->Option α
 | [],e,h,k=>k e h
 |o::rest,e,h,k=>
  match o.guard with
  |none=>aa (opA P C o (ev e) h) fun v h'=>opsK P C ops rest (putD e o.dst v) h' k
  |some (j,want)=>aa (al (iW ops e j==some want) (opA P C o (ev e) h) h) fun v h'=>opsK P C ops rest (putD e o.dst v) h' k
def ti {α:Type} (P:Program) (C:ah) (ops:Array Oper) : ∀ (l:List Oper) (e:aO) (h:ae) (k:aO->ae->Option α),
  opsK P C ops l e h k=match opsA P C ops l e h with|some (e',h')=>k e' h'|none=>none
 | [],e,h,k=>rfl
 |o::rest,e,h,k=>by
  unfold opsK opsA stepA ki aa;cases hg:o.guard with
  |none=>
   simp only [DV];cases opA P C o (ev e) h with
   |none=>rfl
   |some r=>exact ti P C ops rest _ _ k
  |some g=>
   obtain ⟨j,want⟩:=g;simp only;by_cases hy:(iW ops e j==some want)=true
   ·simp only [hy,DV,al];cases opA P C o (ev e) h with
    |none=>rfl
    |some r=>exact ti P C ops rest _ _ k
   ·rw [DL hy];rw [HU] at hy;simp only [hy,al];exact ti P C ops rest _ _ k
def dY {α:Type} {l:List α} {x:α} {i:Nat}:(x,i)∈l.zipIdx↔l[i]? = some x:=by
 constructor
 ·intro h;obtain ⟨j,hj⟩:=H7 h;rw [List.getElem?_zipIdx,DJ] at hj;obtain ⟨z,hz,he⟩:=hj;simp only [DF,DC] at he;obtain ⟨rfl,rfl⟩:=he;exact hz
 ·intro h;have:l.zipIdx[i]? = some (x,i):=by rw [List.getElem?_zipIdx,h];simp
  exact D7 this
def BH (P:Program) (ops:Array Oper) (l:List (Nat×Oper)):Bool:=
 let m:=iy ops
 l.zipIdx.all fun x => !(kindOf P x.1.2 == .read)||l.zipIdx.all fun y => !(hard P y.1.2 y.2 x.2)||fN m x.1.1 y.1.1||fN m y.1.1 x.1.1
def yA {P:Program} {C:ah} {ops:Array Oper} {l:List (Nat×Oper)} (ht:BH P ops l=true) (tr:List Ce) (hE:ae):dynOk P C ops l tr hE=true:=by
 unfold dynOk;unfold BH at ht;simp only [DQ,FI,GI,IN] at ht |-;intro x hx;by_cases hr:(kindOf P x.1.1.2 == .read&&x.1.2.sX)=true
 ·right;obtain ⟨⟨x1,t⟩,i⟩:=x;have hx1:(x1,i)∈l.zipIdx:=by rw [dY] at hx |-;exact (HQ.1 hx).1
  intro y hy;have hy1:=FN.1 hy;left;rcases ht (x1,i) hx1 with h1|h1
  ·rw [h1] at hr;simp at hr
  ·rcases h1 y hy1.1 with (h2|h2)|h2
   ·rw [hy1.2] at h2;cases h2
   ·exact .inl h2
   ·exact .inr h2
 ·left;cases h1:(kindOf P x.1.1.2 == .read) with
  |false=>simp
  |true=>rw [h1] at hr;simpa using hr
def nm {P:Program} {C:ah} {ops:Array Oper} : ∀ (l:List (Nat×Oper)) (e:aO) (h:ae),
  (traceA P C ops l e h).map (·.2)=opsA P C ops (l.map (·.2)) e h
 | [],e,h=>rfl
 | (i,o)::rest,e,h=>by
   simp only [traceA,FD,opsA,stepA];by_cases hw:ki ops o e=true
   ·rw [DH hw,DH hw];cases opA P C o (ev e) h with
    |none=>rfl
    |some r=>
     obtain ⟨v,h'⟩:=r;simp only;have:=nm (P:=P) (C:=C) (ops:=ops) rest (putD e o.dst v) h';rw [<-this];cases traceA P C ops rest (putD e o.dst v) h'<;>rfl
   ·rw [DL hw,DL hw];simp only;have:=nm (P:=P) (C:=C) (ops:=ops) rest (putD e o.dst undef) h;rw [<-this];cases traceA P C ops rest (putD e o.dst undef) h<;>rfl
def qs (P:Program) (ops:Array Oper):Bool:=r7 P ops (late P ops)&&BH P ops (late P ops)
def px (P:Program) (ops:Array Oper) (l:List (Nat×Oper)):List (Nat×Nat):=
 let m:=iy ops
 (l.zipIdx.filter fun x=>kindOf P x.1.2 == .read).flatMap fun x=>
   (l.zipIdx.filter fun y=>hard P y.1.2 y.2 x.2 && !(fN m x.1.1 y.1.1||fN m y.1.1 x.1.1)).map fun y=>(x.2,y.2)
def dW (sX:Bool) (r:aY) (v:Vl):Bool := !sX||same r v
def chkAt (P:Program) (C:ah) (l:List (Nat×Oper)) (tr:List Ce) (hs:List ae) (x:Nat×Nat):Bool:=
 match l[x.1]?,tr[x.1]?,qc (tr.map (·.sX)) hs (madeIn P l x) (if x.2<x.1 then x.2 else x.2+1) with
 |some y,some t,some h=>dW t.sX (opA P C y.2 (ev t.e) h) t.v
 |some _,some t,none => !t.sX
 |_,_,_=>false
def va (P:Program) (C:ah) (ops:Array Oper) (l:List (Nat×Oper)) (tr:List Ce) (hEnd:ae):Bool:=
 (px P ops l).foldr (fun x acc=>chkAt P C l tr (tr.map (·.h) ++ [hEnd]) x&&acc) true
def AR {α:Type} (f:α->Bool) : ∀ l:List α,l.foldr (fun x acc=>f x&&acc) true=l.all f
 | []=>rfl
 |x::l=>by simp only [List.foldr_cons,List.all_cons,AR f l]
def dynChk_eq {P:Program} {C:ah} {ops:Array Oper} {l:List (Nat×Oper)} {tr:List Ce} {hEnd:ae} (hlen:tr.length=l.length):va P C ops l tr hEnd=dynOk P C ops l tr hEnd:=by
 unfold va dynOk;rw [AR,Bool.eq_iff_iff];simp only [DQ];have hz : ∀ (x:Nat×Oper) (t:Ce) (i:Nat),((x,t),i)∈(l.zip tr).zipIdx↔l[i]? = some x/\tr[i]? = some t:=by intro x t i;rw [dY,HQ]
 constructor
 ·rintro h ⟨⟨x,t⟩,i⟩ hx;obtain ⟨hx1,hx2⟩:=(hz x t i).1 hx;simp only [FI,GI,IN,DQ];by_cases hr:(kindOf P x.2 == .read)=true
  ·by_cases hran:t.sX=true
   ·right;rintro ⟨y,j⟩ hy;rw [FN,dY] at hy;simp only at hy |-;by_cases hb:(fN (iy ops) x.1 y.1||fN (iy ops) y.1 x.1)=true
    ·left;simpa using hb
    ·right;have hp:(i,j)∈px P ops l:=by unfold px;simp only [HV,FN,EZ];exact ⟨(x,i),⟨dY.2 hx1,hr⟩,(y,j),⟨dY.2 hy.1,by simp only [hy.2,EU];simpa using hb⟩,rfl⟩
     have:=h _ hp;unfold chkAt at this;simp only [hx1,hx2] at this;split at this
     ·rename_i h1 h2 h3;cases h1;cases h2;rw [h3];simpa [dW,hran] using this
     ·rename_i h1 h2 h3;cases h2;rw [hran] at this;simp at this
     ·simp at this
   ·left;right;simpa using hran
  ·left;left;simpa using hr
 ·rintro h ⟨i,j⟩ hp;unfold px at hp;simp only [HV,FN,EZ] at hp;obtain ⟨⟨x,i'⟩,⟨hx1,hr⟩,⟨y,j'⟩,⟨hy1,hy2⟩,he⟩:=hp;simp only [DF] at he;obtain ⟨rfl,rfl⟩:=he;rw [dY] at hx1 hy1;simp only [DD] at hr hy2;have hi:i'<tr.length:=by rw [hlen];exact (DZ.1 hx1).1
  have ht:tr[i']? = some tr[i']:=DE hi;have hq:=h ((x,tr[i']),i') ((hz _ _ _).2 ⟨hx1,ht⟩);simp only [hr,EU,FI,GI,DQ] at hq;unfold chkAt;simp only [hx1,ht];have key:tr[i'].sX=true->(match qc (tr.map (·.sX)) (List.map (fun x=>x.h) tr ++ [hEnd]) (madeIn P l (i',j')) (if j'<i' then j' else j'+1) with|some h=>same (opA P C x.2 (ev tr[i'].e) h) tr[i'].v|none=>false)=true:=by
   intro hran;rcases hq with hq|hq
   ·rw [hran] at hq;cases hq
   ·have:=hq (y,j') (FN.2 ⟨dY.2 hy1,hy2.1⟩);simp only at this;have hy3:=hy2.2;rcases this with h1|h1
    ·have h1':(fN (iy ops) x.1 y.1||fN (iy ops) y.1 x.1)=true:=by simpa using h1
     simp [h1'] at hy3
    ·exact h1
  split
  ·rename_i h1 h2 h3;cases h1;cases h2;unfold dW;cases hran:tr[i'].sX with
   |false=>rfl
   |true=>have:=key hran;rw [h3] at this;simpa using this
  ·rename_i h1 h2 h3;cases h2;cases hran:tr[i'].sX with
   |false=>rfl
   |true=>have:=key hran;rw [h3] at this;simp at this
  ·rename_i h1 h2;cases hh:qc (tr.map (·.sX)) (List.map (fun x=>x.h) tr ++ [hEnd]) (madeIn P l (i',j')) (if j'<i' then j' else j'+1) with
   |some hp'=>exact absurd hh (h1 _ _ _ rfl rfl)
   |none=>exact absurd hh (h2 _ _ rfl rfl)
def traceK {α:Type} (P:Program) (C:ah) (ops:Array Oper):List (Nat×Oper)->aO->ae->(List Ce->aO->ae->Option α)->Option α
 | [],e,h,k=>k [] e h
 |x::rest,e,h,k=>
  match x.2.guard with
  |none=>aa (opA P C x.2 (ev e) h) fun v h'=>traceK P C ops rest (putD e x.2.dst v) h' fun tr=>k (⟨e,h,v,true⟩::tr)
  |some (j,want)=>aa (al (iW ops e j==some want) (opA P C x.2 (ev e) h) h) fun v h'=>traceK P C ops rest (putD e x.2.dst v) h' fun tr=>k (⟨e,h,v,iW ops e j==some want⟩::tr)
def rj {α:Type} (P:Program) (C:ah) (ops:Array Oper) : ∀ (l:List (Nat×Oper)) (e:aO) (h:ae) (k:List Ce->aO->ae->Option α),
  traceK P C ops l e h k=match traceA P C ops l e h with|some (tr,e',h')=>k tr e' h'|none=>none
 | [],e,h,k=>rfl
 | (i,o)::rest,e,h,k=>by
   unfold traceK traceA ki aa;simp only;cases hg:o.guard with
   |none=>
    simp only [DV];cases opA P C o (ev e) h with
    |none=>rfl
    |some r=>
     simp only;rw [rj P C ops rest];cases traceA P C ops rest (putD e o.dst r.1) r.2<;>rfl
   |some g=>
    obtain ⟨j,want⟩:=g;simp only;by_cases hy:(iW ops e j==some want)=true
    ·simp only [hy,DV,al];cases opA P C o (ev e) h with
     |none=>rfl
     |some r=>
      simp only;rw [rj P C ops rest];cases traceA P C ops rest (putD e o.dst r.1) r.2<;>rfl
    ·rw [DL hy];rw [HU] at hy;simp only [hy,al];rw [rj P C ops rest];cases traceA P C ops rest (putD e o.dst undef) h<;>rfl
def mE {P:Program} {C:ah} {ops:Array Oper} : ∀ {l:List (Nat×Oper)} {e e':aO} {h h':ae} {tr:List Ce},traceA P C ops l e h=some (tr,e',h')->tr.length=l.length
 | [],e,e',h,h',tr,ht=>by simp only [traceA,DA,DF] at ht;rw [<-ht.1];rfl
 | (i,o)::rest,e,e',h,h',tr,ht=>by
   simp only [traceA] at ht;split at ht
   ·split at ht
    ·split at ht
     ·rename_i r h5;obtain ⟨e2,h2⟩:=r;simp only [DA,DF] at ht;obtain ⟨rfl,_⟩:=ht;simp [mE h5]
     ·cases ht
    ·cases ht
   ·split at ht
    ·rename_i r h5;obtain ⟨e2,h2⟩:=r;simp only [DA,DF] at ht;obtain ⟨rfl,_⟩:=ht;simp [mE h5]
    ·cases ht
def ta {α:Type} (P:Program) (C:ah) (ops:Array Oper) (draw:Bool) (e:aO) (h:ae) (k:aO->ae->Option α):Option α:=
 match draw with
 |false=>opsK P C ops ops.toList e h k
 |true=>
  match qs P ops with
  |true=>opsK P C ops ((late P ops).map (·.2)) e h k
  |false=>match r7 P ops (late P ops) with
   |true=>traceK P C ops (late P ops) e h fun tr e' h'=>match va P C ops (late P ops) tr h' with
    |true=>k e' h'
    |false=>none
   |false=>none
def regionK_eq {α:Type} (P:Program) (C:ah) (ops:Array Oper) (draw:Bool) (e:aO) (h:ae) (k:aO->ae->Option α) :
  ta P C ops draw e h k=match regionA P C ops draw e h with|some (e',h')=>k e' h'|none=>none:=by
 unfold ta;cases draw with
 |false=>simp only [ti,regionA];rfl
 |true=>
  simp only;cases hl:qs P ops with
  |false=>
   simp only [rj,regionA,DV];cases hs:r7 P ops (late P ops) with
   |false=>rfl
   |true=>
    simp only [DV];cases ht:traceA P C ops (late P ops) e h with
    |none=>rfl
    |some r=>
     obtain ⟨tr,e',h'⟩:=r;simp only;rw [dynChk_eq (mE ht)];cases dynOk P C ops (late P ops) tr h'<;>rfl
  |true=>
   simp only [qs,DD] at hl;simp only [ti,regionA,DV,hl.1,<-nm];cases ht:traceA P C ops (late P ops) e h with
   |none=>rfl
   |some r=>
    obtain ⟨tr,e',h'⟩:=r;simp [yA hl.2]
def codeK {α:Type} (P:Program) (C:ah):Code->aO->ae->(aO->ae->Option α)->(aO->ae->Option α)->(Nat->aO->ae->Option α)->Option α
 | .skip,e,h,n,_,_=>n e h
 | .region _ ops draw,e,h,n,_,_=>ta P C ops draw e h n
 | .seq a b,e,h,n,r,x=>codeK P C a e h (fun e' h'=>codeK P C b e' h' n r x) r x
 | .cond c a b,e,h,n,r,x=>match ev e c with
   | .bool true=>codeK P C a e h n r x
   | .bool false=>codeK P C b e h n r x
   |_=>none
 | .block id b,e,h,n,r,x=>codeK P C b e h n r (fun i e' h'=>if i=id then n e' h' else x i e' h')
 | .loop b,e,h,_,r,x=>match iter (codeA P C b) az e h with
   |some (.ret,e',h')=>r e' h'
   |some (.exit i,e',h')=>x i e' h'
   |_=>none
 | .exit i,e,h,_,_,x=>x i e h
 | .scope b,e,h,n,r,x=>codeK P C b e h n r x
 | .label _,e,h,n,_,_=>n e h
 | .ret,e,h,_,r,_=>r e h
 | .goto _,_,_,_,_,_=>none
 | .rangeFunc g ps a b,e,h,n,r,x=>match codeA P C (.rangeFunc g ps a b) e h with
   |some (.normal,e',h')=>n e' h'
   |some (.ret,e',h')=>r e' h'
   |some (.exit i,e',h')=>x i e' h'
   |none=>none
 | .refuse _,_,_,_,_,_=>none
def oK {step:aO->ae->Option (Ex×aO×ae)} : ∀ (n:Nat) (e:aO) (h:ae) {e':aO} {h':ae},iter step n e h≠some (.normal,e',h')
 | 0,_,_,_,_=>by simp [iter]
 |n+1,e,h,e',h'=>by
  unfold iter;split
  ·exact oK n _ _
  ·rename_i hne;exact hne e' h'
def endK {α:Type} (n r:aO->ae->Option α) (x:Nat->aO->ae->Option α):Option (Ex×aO×ae)->Option α
 |some (.normal,e,h)=>n e h
 |some (.ret,e,h)=>r e h
 |some (.exit i,e,h)=>x i e h
 |none=>none
def jV {α:Type} (P:Program) (C:ah) : ∀ (c:Code) (e:aO) (h:ae) (n r:aO->ae->Option α) (x:Nat->aO->ae->Option α),
  codeK P C c e h n r x=endK n r x (codeA P C c e h)
 | .skip,e,h,n,r,x=>rfl
 | .region id ops d,e,h,n,r,x=>by simp only [codeK,codeA,regionK_eq];cases regionA P C ops d e h<;>rfl
 | .seq a b,e,h,n,r,x=>by
   simp only [codeK,codeA];rw [jV P C a];cases ha:codeA P C a e h with
   |none=>rfl
   |some y=>
    obtain ⟨ex,e',h'⟩:=y;cases ex with
    |normal=>simp only [endK];exact jV P C b _ _ _ _ _
    |ret=>rfl
    |exit i=>rfl
 | .cond c a b,e,h,n,r,x=>by
   simp only [codeK,codeA];generalize ev e c=v;cases v with
   |bool t=>
    cases t with
    |true=>exact jV P C a _ _ _ _ _
    |false=>exact jV P C b _ _ _ _ _
   |_=>rfl
 | .block id b,e,h,n,r,x=>by
   simp only [codeK,codeA];rw [jV P C b];cases hb:codeA P C b e h with
   |none=>rfl
   |some y=>
    obtain ⟨ex,e',h'⟩:=y;cases ex with
    |normal=>rfl
    |ret=>rfl
    |exit i=>
     simp only [endK];by_cases hi:i=id
     ·simp [hi]
     ·simp [hi]
 | .loop b,e,h,n,r,x=>by
   simp only [codeK,codeA];cases hb:iter (codeA P C b) az e h with
   |none=>rfl
   |some y=>
    obtain ⟨ex,e',h'⟩:=y;cases ex with
    |normal=>exact absurd hb (oK _ _ _)
    |ret=>rfl
    |exit i=>rfl
 | .exit i,e,h,n,r,x=>rfl
 | .scope b,e,h,n,r,x=>by simp only [codeK,codeA];exact jV P C b _ _ _ _ _
 | .label _,e,h,n,r,x=>rfl
 | .ret,e,h,n,r,x=>rfl
 | .goto _,e,h,n,r,x=>rfl
 | .rangeFunc g ps a b,e,h,n,r,x=>by
   simp only [codeK];cases codeA P C (.rangeFunc g ps a b) e h with
   |none=>rfl
   |some y=>obtain ⟨ex,e',h'⟩:=y;cases ex<;>rfl
 | .refuse _,e,h,n,r,x=>rfl
def aV (P:Program) (C:ah) (fn:Func) (args:List Vl) (h:ae):aY:=
 match fn.body with
 |none=>none
 |some c=>codeK P C c (args++List.replicate (fn.ntmps-args.length) undef) h (resultsA P fn.results.toList) (resultsA P fn.results.toList) (fun _ _ _=>none)
def mS (P:Program) (C:ah) (fn:Func) (args:List Vl) (h:ae):aV P C fn args h=bodyA P C fn args h:=by
 unfold aV bodyA;cases fn.body with
 |none=>rfl
 |some c=>
  simp only [jV];cases codeA P C c (args++List.replicate (fn.ntmps-args.length) undef) h with
  |none=>rfl
  |some y=>
   obtain ⟨ex,e',h'⟩:=y;cases ex<;>rfl
def roundK (P:Program) (C:ah) (b:Code) (e:aO) (h:ae):Option (Ex×aO×ae):=
 codeK P C b e h (fun e h=>some (.normal,e,h)) (fun e h=>some (.ret,e,h)) (fun i e h=>some (.exit i,e,h))
def roundK_eq (P:Program) (C:ah) (b:Code) (e:aO) (h:ae):roundK P C b e h=codeA P C b e h:=by
 unfold roundK;rw [jV];cases codeA P C b e h with
 |none=>rfl
 |some y=>
  obtain ⟨ex,e',h'⟩:=y;cases ex<;>rfl
def cD.shut {μ:Mu} {h:ae} {w:World} (S:cD μ h w) {r:Nat} {x:Option (List Deferred)} (hr:w.heap[r]? = some (Obj.deferred x)) (o:Obj):cD μ h (w.putObj r o):=by
 have key : ∀ {B:Nat} {ob:Obj},w.heap[B]? = some ob->(∀ y,ob ≠ .deferred y)->(w.putObj r o).heap[B]? = some ob:=by intro B ob hB hne;rw [World.putObj_heap_other (by rintro rfl;rw [hr] at hB;cases hB;exact hne _ rfl)];exact hB
 refine ⟨?_,?_,?_,S.inj,by simpa using S.size,S.low⟩
 ·intro b cs hb hc;obtain ⟨L,a,T,f,h1,h2,h3,h4,h5⟩:=S.old b cs hb hc;exact ⟨L,a,T,f,h1,h2,h3,key h4 (by intro y hy;cases hy),h5⟩
 ·intro b k hb hg;obtain ⟨L,a,T,f,h1,h2,h4,h5⟩:=S.new b k hb hg;exact ⟨L,a,T,f,h1,h2,key h4 (by intro y hy;cases hy),h5⟩
 ·intro b ob hb hg;obtain ⟨L,ob',h1,h2,h3,h4⟩:=S.obj b ob hb hg;refine ⟨L,ob',h1,key h2 ?_,h3,h4⟩;rintro y rfl;cases ob<;>exact h3
def tI {P:Program} {nd:Nat} {fn:Func} {a:Act} {R:Ending->World->Prop} {μ μ0:Mu} {h h0:ae} {w0:World} :
  ∀ (rs:List Nat) {w:World},cD μ h w->ct μ0 h0 w0 μ h w->ud w0.heap.size μ h w rs ->
  (∀ w,cD μ h w->ct μ0 h0 w0 μ h w -> ∃ v,(results fn a.tmps).run P w = .ok v w/\R (.returned v) w) ->
  LeavesInM (Fr none) nd P fn a.tmps R (jf rs) .returning w
 | [],w,S,St,m,hR=>hR w S St
 |r::rs,w,S,St,m,hR=>by
  obtain ⟨h1,h2,h3⟩:=m.at_ r (by simp);have hd:=List.nodup_cons.1 m.dup;refine ⟨by simp,.inl ⟨r,_,rfl,run_takeDeferred h2,?_⟩⟩;refine tI rs (S.shut h2 _) ?_ ⟨hd.2,?_⟩ hR
  ·refine ⟨St.ext,St.n0,St.old,St.next,St.os,St.tape,St.output,by simpa using St.size,?_,St.own,?_,St.drawn⟩
   ·intro B hB hO;rw [World.putObj_heap_other (by omega)];exact St.same B hB hO
   ·intro B q hB;obtain ⟨q',hq⟩:=St.loops B q hB;have:=(DT.1 hB).1;exact ⟨q',by rw [World.putObj_heap_other (by omega)];exact hq⟩
  ·intro q hq;obtain ⟨k1,k2,k3⟩:=m.at_ q (by simp [hq]);refine ⟨k1,?_,k3⟩;rw [World.putObj_heap_other (by rintro rfl;exact hd.1 hq)];exact k2
def xL {P:Program} {C:ah} (hC:bk P C) (hm:P.follows .mixedOrders=true) {f:FuncId} {fn:Func} {c:Code} (hf:P.funcs[f]? = some fn) (hb:fn.body=some c) (hok:codeOk P c=true)
  {args:List Vl} {h h':ae} {v:Vl} (he:bodyA P C fn args h=some (v,h')) (hg:P.globals.size<=h.n0) (hba:cT h.next args=true) (hbh:aE h)
  {μ:Mu} {w:World} {args':List Vl} (S:cD μ h w) (hfr:fi μ h h') (r:aT μ args args') :
  Calls P f args'.toArray w (pS μ h w v h'):=by
 unfold bodyA at he;rw [hb] at he;simp only at he;refine fr_calls (r:=none) (n:=0) (callsIn_of_wp_marks hf hb trivial ?_ rfl);have hbe:cT h.next (args++List.replicate (fn.ntmps-args.length) undef)=true:=
  cL hba (eX.2 fun x hx=>by rw [ES hx];rfl)
 have her:jU (jf []) μ (args++List.replicate (fn.ntmps-args.length) undef) { tmps:=args'.toArray++Array.replicate (fn.ntmps-args'.toArray.size) undef,defers := [] }:=by refine ⟨?_,rfl⟩;have h1:args.length=args'.length:=r.1;simp only [GD,Array.toList_replicate,FR];rw [h1];exact r.append (aT.replicate μ _ (aF.undef μ))
 cases hc:codeA P C c (args++List.replicate (fn.ntmps-args.length) undef) h with
 |none=>rw [hc] at he;cases he
 |some y=>
  obtain ⟨ex,e1,h1⟩:=y;rw [hc] at he;have hgrow:resultsA P fn.results.toList e1 h1=some (v,h'):=by
   cases ex with
   |normal=>exact he
   |ret=>exact he
   |exit i=>cases he
  obtain rfl:=jJ hgrow;refine dp hC hm c hok none 0 w.heap.size [] _ _ _ _ _ _ _ _ _ hc hg hbe hbh S hfr her ⟨by simp,by simp⟩ (DG _) (fun l hl=>by cases hl) ?_;rintro a' w' ⟨μ',rs,hS,hSt,hr,hmk⟩;have fin:=tI (P:=P) (nd:=0) (fn:=fn) (a:=a') (R:=pS μ h w v h') rs hS hSt hmk (fun w2 S2 St2=>by obtain ⟨v',h3,h4⟩:=xk (P:=P) (w:=w2) S2 hr hgrow;exact ⟨v',h3,μ',v',rfl,S2,St2,h4⟩)
  have hd:a'.defers=jf rs:=hr.2;cases ex with
  |normal=>simp only [exOf,bodyPostM,hd];exact fin
  |ret=>simp only [exOf,bodyPostM,hd];exact fin
  |exit i=>cases he
def yI {μ:Mu} : ∀ {e e':List Vl} (ps:List Tmp) {xs ys:List Vl},aT μ e e'->aT μ xs ys->aT μ (iq e (ps.zip xs)) ((ps.zip ys).foldl (fun (t:List Vl) (p:Tmp×Vl)=>t.set p.1 p.2) e')
 |e,e',[],xs,ys,he,hx=>he
 |e,e',p::ps,[],[],he,hx=>he
 |e,e',p::ps,[],_::_,he,hx=>by have:=hx.1;simp at this
 |e,e',p::ps,_::_,[],he,hx=>by have:=hx.1;simp at this
 |e,e',p::ps,x::xs,y::ys,he,hx=>by simp only [List.zip_cons_cons,iq,List.foldl_cons];exact yI ps (he.set p hx.head) hx.tail
def zipfold_set (ps:Array Tmp) (ys:List Vl) (t:Array Vl):((ps.zip ys.toArray).foldl (fun tmps (p:Tmp×Vl)=>tmps.setIfInBounds p.1 p.2) t).toList=(ps.toList.zip ys).foldl (fun (t:List Vl) (p:Tmp×Vl)=>t.set p.1 p.2) t.toList:=by
 rw [<-Array.foldl_toList,Array.toList_zip];simp only;generalize ps.toList.zip ys=l;induction l generalizing t with
 |nil=>rfl
 |cons p l ih=>simp only [List.foldl_cons];rw [ih];simp
def uY {n:Nat} : ∀ {e:aO} (ps:List Tmp) {xs:List Vl},cT n e=true->cT n xs=true->cT n (iq e (ps.zip xs))=true
 |e,[],xs,he,hx=>he
 |e,p::ps,[],he,hx=>he
 |e,p::ps,x::xs,he,hx=>by simp only [cT,DD] at hx;exact uY ps (bdL_set he hx.1) hx.2
def jS {P:Program} {C:ah} {l:Nat} {args:List Vl} {h h':ae} {v:Vl} (he:roundA P C l args h=some (v,h')) :
  ∃ st p0 t0 q0 assign body e1 h1 p1 t1 q1 a1 b1 x e2 h2,h.getB l=some (.obj (.loop st p0 t0 q0 assign body))/\args.length=q0.length/\codeOk P assign=true/\codeOk P body=true /\
    codeA P C assign (iq t0 (q0.zip args)) h=some (.normal,e1,h1)/\h1.getB l=some (.obj (.loop .ready p1 t1 q1 a1 b1)) /\
    codeA P C body e1 (h1.setO l (.loop .busy p1 t1 q1 a1 b1))=some (x,e2,h2)/\gX l x h2=some (v,h'):=by
 unfold roundA at he;split at he
 ·rename_i st p0 t0 q0 assign body hg;split at he
  ·rename_i hc;split at he
   ·rename_i e1 h1 hca;split at he
    ·rename_i p1 t1 q1 a1 b1 hg1;split at he
     ·rename_i x e2 h2 hcb;exact ⟨st,p0,t0,q0,assign,body,e1,h1,p1,t1,q1,a1,b1,x,e2,h2,hg,hc.1,hc.2.1,hc.2.2,hca,hg1,hcb,he⟩
     ·cases he
    ·cases he
   ·cases he
  ·cases he
 ·cases he
def lJ {l:Nat} {x:Ex} {h h':ae} {v:Vl} (he:gX l x h=some (v,h')) :
  ∃ st p t q a b,h.getB l=some (.obj (.loop st p t q a b))/\v = .bool (x == .normal)/\h'=h.setO l (.loop (if x = .normal then .ready else .done) (if x = .normal then none else some x) t q a b):=by
 unfold gX at he;split at he
 ·rename_i st p t q a b hg;cases he;exact ⟨st,p,t,q,a,b,hg,rfl,rfl⟩
 ·cases he
def roundA_grow {P:Program} {C:ah} (hC:bk P C) {l:Nat} {args:List Vl} {h h':ae} {v:Vl} (he:roundA P C l args h=some (v,h')):bH h h':=by obtain ⟨st,p0,t0,q0,assign,body,e1,h1,p1,t1,q1,a1,b1,x,e2,h2,hg,hlen,ho1,ho2,hca,hg1,hcb,hend⟩:=jS he;obtain ⟨_,_,_,_,_,_,_,_,rfl⟩:=lJ hend;exact (((bV hC _ hca).trans (bH.setO _ _ _)).trans (bV hC _ hcb)).trans (bH.setO _ _ _)
def roundA_bd {P:Program} {C:ah} (hC:bk P C) {l:Nat} {args:List Vl} {h h':ae} {v:Vl} (he:roundA P C l args h=some (v,h')) (hgl:P.globals.size<=h.n0) (hba:cT h.next args=true) (hbh:aE h) :
  b9 h'.next v=true/\aE h':=by
 obtain ⟨st,p0,t0,q0,assign,body,e1,h1,p1,t1,q1,a1,b1,x,e2,h2,hg,hlen,ho1,ho2,hca,hg1,hcb,hend⟩:=jS he;obtain ⟨_,_,_,_,_,_,hg2,rfl,rfl⟩:=lJ hend;have hg1':=bV hC _ hca;obtain ⟨k1,k2⟩:=dN hC _ ho1 hgl (uY q0 (hbh.obj _ _ hg) hba) hbh hca;have hob1:=k2.obj _ _ hg1;obtain ⟨k3,k4⟩:=dN hC _ ho2 (h:=h1.setO l (.loop .busy p1 t1 q1 a1 b1)) (by rw [ae.BU,hg1'.2.1];exact hgl) (by simpa using k1) (k2.setO (h1.bS hg1) hg1 hob1) hcb;have hob2:=k4.obj _ _ hg2;exact ⟨rfl,k4.setO (h2.bS hg2) hg2 hob2⟩
def round_sound {P:Program} {C:ah} (hC:bk P C) (hm:P.follows .mixedOrders=true) {l:Nat} {args:List Vl} {h h':ae} {v:Vl} (he:roundA P C l args h=some (v,h')) (hgl:P.globals.size<=h.n0)
  (hba:cT h.next args=true) (hbh:aE h) {μ:Mu} {w:World} {args':List Vl} {L:Loc} (S:cD μ h w) (hfr:fi μ h h') (r:aT μ args args') (hL:μ l=some L) :
  ∃ fn tmps assign body,(Instr.yield L.blk args'.toArray).run P w = .ok (.round L.blk fn tmps assign body) w /\ ∀ n,RoundIn (Fr none) n P L.blk fn tmps assign body w (pS μ h w v h'):=by
 obtain ⟨st,p0,t0,q0,assign,body,e1,h1,p1,t1,q1,a1,b1,x,e2,h2,hg,hlen,ho1,ho2,hca,hg1,hcb,hend⟩:=jS he;obtain ⟨s3,p3,t3,q3,a3,b3,hg3,rfl,rfl⟩:=lJ hend;have gr1:=bV hC _ hca;have gr2:=bV hC _ hcb;have gr2n:h1.next<=h2.next:=by have:=gr2.1;simpa using this
 obtain ⟨L0,ob,g1,g2,g3,g4,g5⟩:=S.obj l _ (h.bS hg) hg;rw [hL] at g1;cases g1;cases ob with
 |loop R=>
  obtain ⟨k1,k2,k3,k4,k5,k6⟩:=g3;have hsz:args'.toArray.size=R.params.size:=by have h5:=r.1;have h6:R.params.toList.length=R.params.size:=Array.length_toList;rw [k4] at h6;simp only [FR];omega
  refine ⟨R.fn,_,R.assign,R.body,run_yield g2 hsz,fun n => ?_⟩;rw [k5,k6];have hbe:=uY q0 (hbh.obj _ _ hg) hba;obtain ⟨bd1,bd2⟩:=dN hC _ ho1 hgl hbe hbh hca;have hob1:=bd2.obj _ _ hg1;have hfr' : ∀ b,h.next<=b->b<h2.next->μ b=none:=fun b h5 h6=>hfr b h5 h6;refine roundIn_of_wpIn (F:=Fr none) trivial ?_;refine dp hC hm assign ho1 (some L.blk) n w.heap.size [] _ _ _ _ _ _ _ _ _ hca hgl hbe hbh S (fun b h5 h6=>hfr' b h5 (by omega)) ?_ ⟨by simp,by simp⟩ (DG _) (fun l' hl'=>by cases hl';exact ⟨R,g2⟩) ?_
  ·refine ⟨?_,rfl⟩;have hfe:=zipfold_set R.params args' R.tmps;have hp:=yI q0 k3 r;rw [<-k4] at hp |-;rw [<-hfe] at hp;exact hp
  ·rintro a' w1 ⟨μ1,rs1,S1,St1,er1,mk1⟩;have hμ1:μ1 l=some L:=St1.mono (fun b h5 h6=>hfr' b h5 (by omega)) _ _ hL;obtain ⟨L1,ob1,j1,j2,j3,j4,j5⟩:=S1.obj l _ (h1.bS hg1) hg1;rw [hμ1] at j1;cases j1;cases ob1 with
   |loop R1=>
    obtain ⟨m1,m2,m3,m4,m5,m6⟩:=j3;refine ⟨_,run_beginRound j2 m1,?_⟩;obtain ⟨S2,St2⟩:=S1.setO (o' := .loop .busy p1 t1 q1 a1 b1) (ob' := .loop { R1 with state := .busy }) hg1 hμ1 ⟨rfl,m2,m3,m4,m5,m6⟩;refine dp hC hm body ho2 (some L.blk) n w.heap.size rs1 _ _ _ _ _ _ _ _ _ hcb (by rw [ae.BU,gr1.2.1];exact hgl) (by simpa using bd1) (bd2.setO (h1.bS hg1) hg1 hob1) S2 ?_ er1 (mk1.step St2) ?_ ?_ ?_
    ·intro b h5 h6;rw [St1.ext b (.inr (by simpa using h5))];have:=gr1.1;exact hfr' b (by simp at h5;omega) h6
    ·have:=St1.size;simpa using this
    ·intro l' hl';cases hl';exact ⟨_,World.putObj_heap_same (DT.1 j2).1⟩
    ·rintro a'' w3 ⟨μ3,rs3,S3,St3,er3,mk3⟩;have StA:=(St1.trans St2).trans St3;have hμ3:μ3 l=some L:=StA.mono (fun b h5 h6=>hfr' b h5 h6) _ _ hL;obtain ⟨L3,ob3,n1,n2,n3,n4,n5⟩:=S3.obj l _ (h2.bS hg3) hg3;rw [hμ3] at n1;cases n1;cases ob3 with
     |loop R3=>
      obtain ⟨o1,o2,o3,o4,o5,o6⟩:=n3;have fin : ∀ (j:Option Code),j=(if x = .normal then none else some (exCode x)) -> ∃ v w',(Instr.endRound L.blk j).run P w3 = .ok v w'/\pS μ h w (.bool (x == .normal)) (h2.setO l (.loop (if x = .normal then .ready else .done) (if x = .normal then none else some x) t3 q3 a3 b3)) (.returned v) w':=by
       intro j hj;refine ⟨_,_,run_endRound j n2,?_⟩;obtain ⟨S4,St4⟩:=S3.setO (o' := .loop (if x = .normal then .ready else .done) (if x = .normal then none else some x) t3 q3 a3 b3)
        (ob' := .loop { R3 with state:=if j.isNone then .ready else .done,pending:=j }) hg3 hμ3 (by
         refine ⟨?_,?_,o3,o4,o5,o6⟩
         ·subst hj;by_cases hx:x = .normal<;>simp [hx]
         ·subst hj;by_cases hx:x = .normal<;>simp [hx])
       refine ⟨μ3,_,rfl,S4,StA.trans St4,?_⟩;have:j.isNone=(x == .normal):=by subst hj;by_cases hx:x = .normal<;>simp [hx]
       rw [this];exact .flat rfl
      cases x with
      |normal=>exact fin none rfl
      |ret=>exact fin (some .ret) rfl
      |exit i=>exact fin (some (.exit i)) rfl
     |_=>exact n3.elim
   |_=>exact j3.elim
 |_=>exact g3.elim
def renF (r:Nat->Nat):Fn->Fn
 | .yield l => .yield (r l)
 |f=>f
mutual
def ft (r:Nat->Nat):Vl->Vl
 | .pointer (some a) => .pointer (some ⟨r a.block,a.off,a.spot⟩)
 | .slice (some a) l c => .slice (some ⟨r a.block,a.off,a.spot⟩) l c
 | .agg ⟨l⟩ => .agg ⟨nt r l⟩
 | .tuple ⟨l⟩ => .tuple ⟨nt r l⟩
 | .map (some b) => .map (some (r b))
 | .func f ⟨a⟩ ⟨b⟩ => .func (renF r f) ⟨nt r a⟩ ⟨nt r b⟩
 | .iface t v => .iface t (ft r v)
 |v=>v
def nt (r:Nat->Nat):List Vl->List Vl
 | [] => []
 |x::l=>ft r x::nt r l
end
def yn (r:Nat->Nat) : ∀ l,nt r l=l.map (ft r)
 | []=>rfl
 |x::l=>by simp [nt,yn r l]
def flat_ren (r:Nat->Nat) (v:Vl) (h:flat (ft r v)=true):flat v=true/\ft r v=v:=by
 cases v with
 |pointer p=>cases p with
  |none=>exact ⟨rfl,rfl⟩
  |some a=>simp [ft,flat] at h
 |slice p l c=>cases p with
  |none=>exact ⟨rfl,rfl⟩
  |some a=>simp [ft,flat] at h
 |agg a=>obtain ⟨l⟩:=a;simp [ft,flat] at h
 |tuple a=>obtain ⟨l⟩:=a;simp [ft,flat] at h
 |func f a b=>
  obtain ⟨a⟩:=a;obtain ⟨b⟩:=b;cases f with
  |func i=>
   simp only [ft,renF,flat,DD,List.isEmpty_toArray,List.isEmpty_iff,yn,GY] at h;obtain ⟨rfl,rfl⟩:=h;exact ⟨rfl,rfl⟩
  |_=>simp [ft,renF,flat] at h
 |map m=>cases m with
  |none=>exact ⟨rfl,rfl⟩
  |some b=>simp [ft,flat] at h
 |iface t v=>simp [ft,flat] at h
 |_=>exact ⟨h,rfl⟩
mutual
def aF.pW {μ:Mu} {r:Nat->Nat} : ∀ (v:Vl) {v':Vl},aF μ (ft r v) v'->aF (fun b=>μ (r b)) v v'
 | .pointer none,v',h=>by have:=h.bG rfl;subst this;exact .flat rfl
 | .pointer (some ⟨b,o,s⟩),v',h=>by
   simp only [ft] at h;cases h with
   |flat h=>simp [flat] at h
   |ptr h=>exact .ptr h
 | .slice none l c,v',h=>by have:=h.bG rfl;subst this;exact .flat rfl
 | .slice (some ⟨b,o,s⟩) l c,v',h=>by
   simp only [ft] at h;cases h with
   |flat h=>simp [flat] at h
   |slice h=>exact .slice h
   |pU h a b c d e=>exact .pU h a b c d e
   |jQ h=>exact .jQ h
   |zA=>exact .zA
 | .agg ⟨l⟩,v',h=>by simp only [ft] at h;obtain ⟨ys,rfl,hl⟩:=h.wP;exact .gD (aT.mf l hl)
 | .tuple ⟨l⟩,v',h=>by simp only [ft] at h;obtain ⟨ys,rfl,hl⟩:=h.Bb;exact .cU (aT.mf l hl)
 | .func f ⟨a⟩ ⟨b⟩,v',h=>by
   by_cases hf:flat (ft r (.func f ⟨a⟩ ⟨b⟩))=true
   ·obtain ⟨h1,h2⟩:=flat_ren r _ hf;have h3:=h.bG hf;rw [h2] at h3;subst h3;exact .flat h1
   ·simp only [ft] at h hf;cases h with
    |flat h=>exact absurd h hf
    | @func _ g _ ys _ zs hfr h1 h2 h3 h4=>
      have q1:aT μ (nt r a) ys.toList:=⟨by simpa using h1,fun i x y hx hy=>h2 i x y (by simpa using hx) (by simpa using hy)⟩
      have q2:aT μ (nt r b) zs.toList:=⟨by simpa using h3,fun i x y hx hy=>h4 i x y (by simpa using hx) (by simpa using hy)⟩
      have p1:=aT.mf a q1;have p2:=aT.mf b q2;refine .func ?_ (by simpa using p1.1) (fun i x y hx hy=>p1.2 i x y (by simpa using hx) (by simpa using hy)) (by simpa using p2.1) (fun i x y hx hy=>p2.2 i x y (by simpa using hx) (by simpa using hy));cases f with
      |yield l=>exact hfr
      |_=>exact hfr
 | .iface t v,v',h=>by
   simp only [ft] at h;cases h with
   |flat h=>simp [flat] at h
   |iface h=>exact .iface (aF.pW v h)
 | .bool _,v',h=>by have:=h.bG rfl;subst this;exact .flat rfl
 | .int _ _,v',h=>by have:=h.bG rfl;subst this;exact .flat rfl
 | .float _ _,v',h=>by have:=h.bG rfl;subst this;exact .flat rfl
 | .complex _ _ _,v',h=>by have:=h.bG rfl;subst this;exact .flat rfl
 | .string _,v',h=>by have:=h.bG rfl;subst this;exact .flat rfl
 | .map none,v',h=>by have:=h.bG rfl;subst this;exact .flat rfl
 | .map (some _),v',h=>by
   simp only [ft] at h;cases h with
   |flat h=>simp [flat] at h
   |map h=>exact .map h
 | .chan none,v',h=>by have:=h.bG rfl;subst this;exact .flat rfl
 | .chan (some _),v',h=>by
   simp only [ft] at h;cases h with
   |flat h=>simp [flat] at h
 | .nilFunc,v',h=>by have:=h.bG rfl;subst this;exact .flat rfl
 | .nilIface,v',h=>by have:=h.bG rfl;subst this;exact .flat rfl
def aT.mf {μ:Mu} {r:Nat->Nat} : ∀ (l:List Vl) {l':List Vl},aT μ (nt r l) l'->aT (fun b=>μ (r b)) l l'
 | [],l',h=>by have:=h.1;simp only [nt,List.length_nil] at this;obtain rfl:=HB this.symm;exact aT.nil _
 |x::l,l',h=>by
  simp only [nt] at h
  match l',h with
  | [],h=>have:=h.1;simp at this
  |y::l',h=>exact .cons (aF.pW x h.head) (aT.mf l h.tail)
end
mutual
def nY {r:Nat->Nat} {n:Nat} (hr : ∀ b,b<n->r b=b) : ∀ (v:Vl),b9 n v=true->ft r v=v
 | .pointer none,_=>rfl
 | .pointer (some ⟨b,o,s⟩),h=>by simp only [b9,DR] at h;simp only [ft,hr b h]
 | .slice none l c,_=>rfl
 | .slice (some ⟨b,o,s⟩) l c,h=>by simp only [b9,DR] at h;simp only [ft,hr b h]
 | .agg ⟨l⟩,h=>by simp only [ft];rw [oG hr l h]
 | .tuple ⟨l⟩,h=>by simp only [ft];rw [oG hr l h]
 | .func f ⟨a⟩ ⟨b⟩,h=>by
   simp only [b9,DD] at h;simp only [ft];rw [oG hr a h.2.1,oG hr b h.2.2];cases f with
   |yield l=>simp only [bdF,DR] at h;simp only [renF,hr l h.1]
   |_=>rfl
 | .iface t v,h=>by simp only [b9] at h;simp only [ft];rw [nY hr v h]
 | .bool _,_=>rfl
 | .int _ _,_=>rfl
 | .float _ _,_=>rfl
 | .complex _ _ _,_=>rfl
 | .string _,_=>rfl
 | .map none,_=>rfl
 | .map (some b),h=>by simp only [b9,DR] at h;simp only [ft,hr b h]
 | .chan _,_=>rfl
 | .nilFunc,_=>rfl
 | .nilIface,_=>rfl
def oG {r:Nat->Nat} {n:Nat} (hr : ∀ b,b<n->r b=b) : ∀ (l:List Vl),cT n l=true->nt r l=l
 | [],_=>rfl
 |x::l,h=>by simp only [cT,DD] at h;simp only [nt];rw [nY hr x h.1,oG hr l h.2]
end
def renO (r:Nat->Nat):fF->fF
 | .map es c => .map (es.map fun x=>(ft r x.1,ft r x.2.1,x.2.2)) c
 | .iter m a b c => .iter (m.map r) a b c
 | .loop st p t q a b => .loop st p (nt r t) q a b
def renB (r:Nat->Nat):BB->BB
 | .cells k => .cells (nt r k)
 | .obj o => .obj (renO r o)
def renO_id {r:Nat->Nat} {n:Nat} (hr : ∀ b,b<n->r b=b) {o:fF} (h:tQ n o=true):renO r o=o:=by
 cases o with
 |map es c=>
  simp only [tQ,DQ,DD] at h;simp only [renO]
  congr 1
  have:es.map (fun x=>(ft r x.1,ft r x.2.1,x.2.2))=es.map id:=List.map_congr_left fun x hx=>by have:=h x hx;rw [nY hr x.1 this.1,nY hr x.2.1 this.2];rfl
  rw [this,List.map_id]
 |iter m a b c=>
  cases m with
  |none=>rfl
  |some q=>simp only [tQ,DR] at h;simp only [renO,Option.map_some,hr q h]
 |loop st p t q a b=>simp only [renO];rw [oG hr t h]
def bdB (n:Nat):BB->Bool
 | .cells k=>cT n k
 | .obj o=>tQ n o
def renB_id {r:Nat->Nat} {n:Nat} (hr : ∀ b,b<n->r b=b) {x:BB} (h:bdB n x=true):renB r x=x:=by
 cases x with
 |cells k=>simp only [renB,oG hr k h]
 |obj o=>simp only [renB,renO_id hr h]
def aE.bb {h:ae} (hb:aE h) {b:Nat} {x:BB} (hg:h.getB b=some x):bdB h.next x=true:=by
 cases x with
 |cells k=>exact hb b k (h.get_of_getB hg)
 |obj o=>exact hb.obj b o hg
def pC.pW {μ:Mu} {r:Nat->Nat} {o:fF} {ob:Obj} (h:pC μ (renO r o) ob):pC (fun b=>μ (r b)) o ob:=by
 cases o with
 |map es c=>
  cases ob with
  |map es' c'=>
   obtain ⟨h1,h2,h3⟩:=h;refine ⟨h1,by simpa using h2,fun i x e hx he => ?_⟩;have:=h3 i (ft r x.1,ft r x.2.1,x.2.2) e (by simp [hx]) he;exact ⟨aF.pW _ this.1,aF.pW _ this.2.1,this.2.2⟩
  |_=>exact h.elim
 |iter m a b c=>
  cases ob with
  |mapIter m' a' b' c'=>
   obtain ⟨h1,h2⟩:=h;refine ⟨?_,h2⟩;cases m with
   |none=>cases m' with
    |none=>trivial
    |some B=>exact h1
   |some q=>cases m' with
    |none=>exact h1
    |some B=>exact h1
  |_=>exact h.elim
 |loop st p t q a b=>
  cases ob with
  |loop R=>
   obtain ⟨h1,h2,h3,h4⟩:=h;exact ⟨h1,h2,aT.mf _ h3,h4⟩
  |_=>exact h.elim
structure Gc (h:ae) (v:Vl) (h':ae) (v1:Vl) (h1:ae) (r:Nat->Nat):Prop where
 low : ∀ b,b<h.next->r b=b
 new : ∀ b,h.next<=b->b<h'.next->h.next<=r b
 inj : ∀ b b',h.next<=b->b<h'.next->h.next<=b'->b'<h'.next->r b=r b'->b=b'
 val:v1=ft r v
 get : ∀ b k,h'.n0<=b->h'.getB b=some k->h1.getB (r b)=some (renB r k)
def Gc.getC {h:ae} {v:Vl} {h':ae} {v1:Vl} {h1:ae} {r:Nat->Nat} (G:Gc h v h' v1 h1 r) (b:Nat) (k:eh) (hb:h'.n0<=b) (hg:h'.get b=some k):h1.get (r b)=some (nt r k):=
 h1.get_of_getB (G.get b _ hb (h'.aJ hg))
def gc_sound {μ μ1:Mu} {h h' h1:ae} {w w':World} {v v1 v':Vl} {r:Nat->Nat} (G:Gc h v h' v1 h1 r) (gr:bH h h') (gr1:bH h h1) (hbh:aE h) (hbh':aE h') (hbv:b9 h'.next v=true)
  (S1:cD μ1 h1 w') (St:ct (μ.cut h.next) h w μ1 h1 w') (hv:aF μ1 v1 v') :
  ∃ μ',cD μ' h' w'/\ct μ h w μ' h' w'/\aF μ' v v':=by
 have hle:=h.n0_le_next
 let μ':Mu:=fun b=>if b<h.next then μ b else if b<h'.next then μ1 (r b) else μ b
 have e1 : ∀ b,b<h.next->μ1 b=μ b:=fun b hb=>by rw [St.ext b (.inl hb)];simp [Mu.cut,hb]
 have e2 : ∀ b,b<h'.next->μ' b=μ1 (r b):=by
  intro b hb;by_cases hb1:b<h.next
  ·rw [G.low b hb1,e1 b hb1];simp [μ',hb1]
  ·simp [μ',hb1,hb]
 have up : ∀ b L,Mu.cut (fun b=>μ1 (r b)) h'.next b=some L->μ' b=some L:=by intro b L hb;obtain ⟨h2,h3⟩:=Mu.yU hb;rw [e2 b h3];exact h2
 have relL : ∀ {k l:List Vl},cT h'.next k=true->aT μ1 (nt r k) l->aT μ' k l:=fun hb hl=>((aT.mf _ hl).cut hb).mono up;have relV : ∀ {k l:Vl},b9 h'.next k=true->aF μ1 (ft r k) l->aF μ' k l:=fun hb hl=>((aF.pW _ hl).cut hb).mono up;have n1:h1.n0=h'.n0:=gr1.2.1.trans gr.2.1.symm;have n2:h'.n0=h.n0:=gr.2.1;have rge : ∀ b,h'.n0<=b->b<h'.next->h'.n0<=r b:=by
  intro b hb hbn;by_cases hb1:b<h.next
  ·rw [G.low b hb1];exact hb
  ·have:=G.new b (by omega) hbn;omega
 have rinj : ∀ b b',b<h'.next->b'<h'.next->r b=r b'->b=b':=by
  intro b b' hb hb' he;by_cases c1:b<h.next
  ·by_cases c2:b'<h.next
   ·rw [G.low b c1,G.low b' c2] at he;exact he
   ·have:=G.new b' (by omega) hb';rw [G.low b c1] at he;omega
  ·by_cases c2:b'<h.next
   ·have:=G.new b (by omega) hb;rw [G.low b' c2] at he;omega
   ·exact G.inj b b' (by omega) hb (by omega) hb' he
 refine ⟨μ',⟨?_,?_,?_,?_,?_,?_⟩,?_,?_⟩
 ·intro b cs hb hc;have hbl:b<h.next:=by omega
  obtain ⟨L,arr,T,fr,h2,h3,h4,h5,h6⟩:=S1.old b cs (n1▸hb) (by rw [gr1.2.2,<-gr.2.2];exact hc);have hbd:cT h.next cs=true:=by refine hbh b cs ?_;unfold ae.get;simp only [ae.eZ];rw [DH (n2▸hb),<-gr.2.2,hc];rfl
  refine ⟨L,arr,T,fr,?_,h3,h4,h5,?_⟩
  ·rw [e2 b (by have:=gr.1;omega),G.low b hbl];exact h2
  ·exact ⟨h6.1,fun i x y hx hy hh=>relV (kv (cy gr.1 hbd) hx) (by rw [nY G.low x (kv hbd hx)];exact h6.2 i x y hx hy hh)⟩
 ·intro b k hb hg;have hbn:=h'.aL hg;obtain ⟨L,arr,T,fr,h2,h3,h4,h5,h6,h7,h8,h9⟩:=S1.new (r b) _ (n1▸rge b hb hbn) (G.getC b k hb hg);refine ⟨L,arr,T,fr,by rw [e2 b hbn];exact h2,by rw [h3,yn];simp,h4,h5,h6,h7,n1▸h8,relL (hbh' b k hg) h9⟩
 ·intro b o hb hg;have hbn:=h'.lt_of_getB hg;obtain ⟨L,ob,h2,h3,h4,h5,h6⟩:=S1.obj (r b) _ (n1▸rge b hb hbn) (G.get b _ hb hg);exact ⟨L,ob,by rw [e2 b hbn];exact h2,h3,(h4.pW.cut (hbh'.obj b o hg)).mono up,n1▸h5,h6⟩
 ·intro b b' k k' L L' hb hb' hne hg hg' hL hL';have hbn:=h'.lt_of_getB hg;have hbn':=h'.lt_of_getB hg';rw [e2 b hbn] at hL;rw [e2 b' hbn'] at hL';exact S1.inj (r b) (r b') _ _ L L' (n1▸rge b hb hbn) (n1▸rge b' hb' hbn') (fun he=>hne (rinj b b' hbn hbn' he)) (G.get b k hb hg) (G.get b' k' hb' hg') hL hL'
 ·rw [<-n1];exact S1.size
 ·intro b hb;obtain ⟨L,h2,h3⟩:=S1.low b (n1▸hb);exact ⟨L,by rw [e2 b (by have:=gr.1;omega),G.low b (by omega)];exact h2,h3⟩
 ·have ownup : ∀ B,Ci (μ.cut h.next) h B->Ci μ h B:=by rintro B ⟨b,k,L,h2,h3,h4,h5⟩;exact ⟨b,k,L,h2,h3,(Mu.yU h4).1,h5⟩
  have owndn : ∀ B,Ci μ h B->Ci (μ.cut h.next) h B:=by rintro B ⟨b,k,L,h2,h3,h4,h5⟩;exact ⟨b,k,L,h2,h3,Mu.eP h4 (h.lt_of_getB h3),h5⟩
  refine ⟨?_,gr.2.1,gr.2.2,gr.1,St.os,St.tape,St.output,St.size,fun B hB hO=>St.same B hB (fun h2=>hO (ownup B h2)),?_,St.loops,St.drawn⟩
  ·intro b hb;simp only [μ'];rcases hb with hb|hb
   ·rw [DH hb]
   ·rw [DL (by have:=gr.1;omega),DL (by omega)]
  ·rintro B ⟨b,k,L,h2,h3,h4,h5⟩;have hbn:=h'.lt_of_getB h3;rw [e2 b hbn] at h4;exact (St.own B ⟨r b,_,L,n1▸rge b h2 hbn,G.get b k h2 h3,h4,h5⟩).imp (ownup B) id
 ·exact relV hbv (G.val▸hv)
structure bU (P:Program) (f:FuncId) (s:List Vl->ae->aY):Prop where
 fn:f<P.funcs.size
 grow : ∀ args h v h',s args h=some (v,h')->bH h h'
 bd : ∀ args h v h',s args h=some (v,h')->cT h.next args=true->aE h->b9 h'.next v=true/\aE h'
 run : ∀ args h v h',s args h=some (v,h')->cT h.next args=true->aE h->P.globals.size<=h.n0 -> ∀ μ w args',cD μ h w->fi μ h h'->aT μ args args' ->
  Runs P f args'.toArray w (pS μ h w v h')
def bU.of_body {P:Program} {C:ah} (hC:bk P C) (hm:P.follows .mixedOrders=true) {f:FuncId} {fn:Func} {c:Code} {s:List Vl->ae->aY}
  (hf : P.funcs[f]? = some fn) (hn : (fn.name == "runtime.NumGoroutine") = false) (hb : fn.body = some c) (hok : codeOk P c = true)
  (grow : ∀ args h v h',s args h=some (v,h')->bH h h')
  (bd : ∀ args h v h',s args h=some (v,h')->cT h.next args=true->aE h->b9 h'.next v=true/\aE h')
  (body : ∀ args h v h',s args h=some (v,h')->cT h.next args=true->aE h->P.globals.size<=h.n0 -> ∃ v1 h1 r,aV P C fn args h=some (v1,h1)/\Gc h v h' v1 h1 r):bU P f s where
 fn:=(DT.1 hf).1
 grow:=grow
 bd:=bd
 run:=by
  intro args h v h' hs hba hbh hg μ w args' S hfr r;obtain ⟨v1,h1,rr,he,G⟩:=body args h v h' hs hba hbh hg;rw [mS] at he;have gr1:bH h h1:=by
   unfold bodyA at he;rw [hb] at he;simp only at he;cases hc:codeA P C c (args++List.replicate (fn.ntmps-args.length) undef) h with
   |none=>rw [hc] at he;cases he
   |some y=>
    obtain ⟨ex,e1,h2⟩:=y;rw [hc] at he;have hgrow:resultsA P fn.results.toList e1 h2=some (v1,h1):=by
     cases ex with
     |normal=>exact he
     |ret=>exact he
     |exit i=>cases he
    rw [jJ hgrow];exact bV hC c hc
  have hcut:fi (μ.cut h.next) h h1:=fun b hb _=>by simp [Mu.cut,IW.2 hb]
  refine .inl ⟨fn,hf,hn,by rw [hb];rfl,(xL hC hm hf hb hok he hg hba hbh (S.cut hbh) hcut (r.cut hba)).mono ?_⟩;rintro e w' ⟨μ1,v',rfl,S1,St,hv⟩;obtain ⟨hb1,hb2⟩:=bd args h v h' hs hba hbh;obtain ⟨μ',h2,h3,h4⟩:=gc_sound G (grow args h v h' hs) gr1 hbh hb2 hb1 S1 St hv;exact ⟨μ',v',rfl,h2,h3,h4⟩
def km:List (FuncId×(List Vl->ae->aY))->ah
 | [],_,_,_=>none
 | (g,s)::t,f,args,h=>if f=g then s args h else km t f args h
def qV {l:List (FuncId×(List Vl->ae->aY))} {f:FuncId} {args:List Vl} {h:ae} {r:Vl×ae} (he:km l f args h=some r) : ∃ p∈l,p.1=f/\p.2 args h=some r:=by
 induction l with
 |nil=>cases he
 |cons p t ih=>
  obtain ⟨g,s⟩:=p;simp only [km] at he;split at he
  ·rename_i e;exact ⟨(g,s),by simp,e.symm,he⟩
  ·obtain ⟨q,h1,h2⟩:=ih he;exact ⟨q,by simp [h1],h2⟩
def fx {P:Program} (l:List (FuncId×(List Vl->ae->aY))) (hl : ∀ p∈l,bU P p.1 p.2):bk P (km l):=by
 refine ⟨?_,?_,?_,?_⟩
 ·intro f args h v h' he;obtain ⟨p,hp,rfl,he'⟩:=qV he;exact (hl p hp).grow args h v h' he'
 ·intro f args h v h' he;obtain ⟨p,hp,rfl,he'⟩:=qV he;exact (hl p hp).bd args h v h' he'
 ·intro f args h v h' he _;obtain ⟨p,hp,rfl,he'⟩:=qV he;exact (hl p hp).run args h v h' he'
 ·intro l' args h v h' he;obtain ⟨p,hp,hf,he⟩:=qV he;have h1:=(hl p hp).fn;rw [hf] at h1;exact absurd h1 (IW.2 (HL _ _))
def Gc.none {h h1:ae} {v:Vl} (hb:b9 h.next v=true) (hbh:aE h) (hk : ∀ b k,h.n0<=b->h.getB b=some k->h1.getB b=some k):Gc h v h v h1 id where
 low _ _:=rfl
 new _ h1 h2:=by omega
 inj _ _ h1 h2:=by omega
 val:=(nY (n:=h.next) (fun _ _=>rfl) v hb).symm
 get b k h1 h2:=by rw [renB_id (r:=id) (n:=h.next) (fun _ _=>rfl) (hbh.bb h2)];exact hk b k h1 h2
def Gc.sub {h h' h1:ae} {v:Vl} (hb:b9 h'.next v=true) (hbh:aE h') (hk : ∀ b k,h'.n0<=b->h'.getB b=some k->h1.getB b=some k):Gc h v h' v h1 id where
 low _ _:=rfl
 new _ h1 _:=h1
 inj _ _ _ _ _ _ h:=h
 val:=(nY (n:=h'.next) (fun _ _=>rfl) v hb).symm
 get b k h1 h2:=by rw [renB_id (r:=id) (n:=h'.next) (fun _ _=>rfl) (hbh.bb h2)];exact hk b k h1 h2
def ren1 (n B:Nat):Nat->Nat:=fun b=>if b=n then B else b
def pu (v:Option Vl) (h:ae):aY:=v.map fun v=>(v,h)
def oC:List Nat->Code->Code
 | [],c=>c
 | 0::p,.seq a _=>oC p a
 |_::p,.seq _ b=>oC p b
 | 0::p,.cond _ a _=>oC p a
 |_::p,.cond _ _ b=>oC p b
 |_::p,.block _ b=>oC p b
 |_::p,.loop b=>oC p b
 |_::p,.scope b=>oC p b
 |_::_,c=>c
def aq (fn:Func) (p:List Nat):Code:=
 match fn.body with
 |some c=>oC p c
 |none => .skip
def bt:Vl->Option Bool
 | .bool b=>some b
 |_=>none
def cO (cells:List Vl) (h:ae):aY:=some (newRow cells h)
def cN (z:List Vl) (ps:List (Nat×Nat×Vl)):Option Vl:=(jq z ps).map fun cs => .agg cs.toArray
def gK (n:Nat) (z:Vl) (len:Nat) (parts:List (Nat×Vl)) (h:ae):aY:=
 if bD z.cells.toList&&z.cells.size=n&&0<n&&len*n<=16777216&&aM (parts.flatMap fun x=>x.2.cells.toList) then
  match jq (dJ z.cells.toList len) (parts.map fun x=>(x.1*n,n,x.2)) with
  |some cs=>some (.slice (some ⟨h.next,0,none⟩) len len,h.alloc cs)
  |none=>none
 else none
def iQ (k:IntKind) (x:Vl) (h:ae):aY:=
 match x with
 | .int _ n=>some (.int k (k.wrap n),h)
 |_=>none
def bsR (n c:Nat) (a:Option Addr) (h:ae):aY:=
 match firstA 1 n (.slice a n c) h with
 |some l=>match l.mapM asByte with
  |some bs=>some (.string ⟨bs.toArray⟩,h)
  |none=>none
 |none=>none
def cvBS (x:Vl) (h:ae):aY:=
 match x with
 | .slice a n c=>bsR n c a h
 | .string s=>some (.string s,h)
 |_=>none
def mkR (n by_:Nat) (z:Vl) (len cap:Vl) (h:ae):aY:=
 match len,cap with
 | .int .i64 l,.int .i64 c=>
   if 0<=l&&l<=c&&c<=9223372036854775807&&by_*c<=281474976710656&&bD z.cells.toList&&z.cells.size=n&&0<n then
    some (.slice (some ⟨h.next,0,none⟩) l.toNat c.toNat,h.alloc (dJ z.cells.toList c.toNat))
   else none
 |_,_=>none
def zR (size:Nat) (x:Vl) (lo hi mx:Option Vl):Option Vl:=
 match x with
 | .string _=>none
 |x=>sliceSl size x lo hi mx
def ixA1 (n z:Nat) (x i:Vl):Option Vl:=
 match x,i with
 | .agg cs,.int _ i=>if 0<=i/\i<n then cs[i.toNat*z]? else none
 |_,_=>none
def lenS (x:Vl):Option Vl:=
 match x with
 | .string s=>some (.int .i64 s.size)
 |_=>none
def cg (x:Vl):Option Vl:=
 match x with
 | .slice _ n _=>some (.int .i64 n)
 |_=>none
def dH {α:Type} (y:Option (Ex×aO×ae)) (r:aO->ae->Option α) (x:Nat->aO->ae->Option α):Option α:=
 match y with
 |some (.ret,e',h')=>r e' h'
 |some (.exit i,e',h')=>x i e' h'
 |_=>none
abbrev AL:=List (Nat×Vl)
def lkB (e0:aO) (l:AL) (t:Nat):Vl:=
 List.rec (motive:=fun _=>Vl) (e0.getD t undef) (fun p _ ih=>Bool.rec (motive:=fun _=>Vl) ih p.2 (Nat.beq p.1 t)) l
def ru (n:Nat) (l:AL) (d:Option Tmp) (v:Vl):AL:=
 match d with
 |some t=>match Nat.blt t n with
  |true=>(t,v)::l
  |false=>l
 |none=>l
def iH (n:Nat) (e0:aO) (l:AL):aO:=(List.range n).map (lkB e0 l)
def lkB_nil (e0:aO) (t:Nat):lkB e0 [] t=e0.getD t undef:=rfl
def lkB_cons (e0:aO) (p:Nat×Vl) (l:AL) (t:Nat):lkB e0 (p::l) t=if p.1=t then p.2 else lkB e0 l t:=by
 show Bool.rec (motive:=fun _=>Vl) (lkB e0 l t) p.2 (Nat.beq p.1 t)=_;cases hb:Nat.beq p.1 t with
 |true=>rw [DH (FW hb)]
 |false=>rw [DL (GB hb)]
def fR (n:Nat) (e0:aO) (l:AL) (t:Nat):(iH n e0 l)[t]? = if t<n then some (lkB e0 l t) else none:=by
 unfold iH;rw [D4];by_cases h:t<n
 ·rw [DH h,FZ h];rfl
 ·rw [DL h,EN (by simpa using h)];rfl
def expB_nil (e0:aO):iH e0.length e0 []=e0:=by
 apply FC;intro i;rw [fR];by_cases h:i<e0.length
 ·rw [DH h,lkB_nil,DK,DE h];rfl
 ·rw [DL h,EN (by omega)]
def uk (n:Nat) (e0:aO) (l:AL) (d:Option Tmp) (v:Vl):iH n e0 (ru n l d v)=putD (iH n e0 l) d v:=by
 cases d with
 |none=>rfl
 |some t=>
  apply FC;intro i;unfold putD ru;simp only;rw [FU,fR];have hlen:(iH n e0 l).length=n:=by simp [iH]
  rw [hlen];cases hb:Nat.blt t n with
  |true=>
   have ht:t<n:=by simpa using hb
   simp only [fR,lkB_cons,ht,DV];by_cases e:t=i
   ·subst e;simp [ht]
   ·simp [e]
  |false=>
   have ht : ¬t<n:=by intro h;rw [show Nat.blt t n=true by simpa using h] at hb;cases hb
   simp only [fR,ht,DS];by_cases e:t=i
   ·subst e;simp [ht]
   ·simp [e]
def evB (n:Nat) (e0:aO) (l:AL):Operand->Vl
 | .tmp t=>match Nat.blt t n with
   |true=>lkB e0 l t
   |false=>undef
 | .const v=>v
 | .global g=>ptr g 0
 | .func f => .func (.func f) #[] #[]
def Ch (n:Nat) (e0:aO) (l:AL):ev (iH n e0 l)=evB n e0 l:=by
 funext x
 cases x with
 |tmp t=>
  simp only [ev,evB,DK,fR];cases hb:Nat.blt t n with
  |true=>have ht:t<n:=by simpa using hb
         simp [ht]
  |false=>
   have ht : ¬t<n:=by intro h;rw [show Nat.blt t n=true by simpa using h] at hb;cases hb
   simp [ht]
 |_=>rfl
def nW (n:Nat) (e0:aO) (ops:Array Oper) (l:AL) (j:Nat):Option Bool:=
 match (ops[j]?).bind (·.dst) with
 |some t=>match Nat.blt t n with
  |true=>bt (lkB e0 l t)
  |false=>none
 |none=>none
def AB (n:Nat) (e0:aO) (ops:Array Oper) (l:AL) (j:Nat):iW ops (iH n e0 l) j=nW n e0 ops l j:=by
 unfold iW nW;cases (ops[j]?).bind (·.dst) with
 |none=>rfl
 |some t=>
  simp only [Option.bind_some,fR];cases hb:Nat.blt t n with
  |true=>
   have ht:t<n:=by simpa using hb
   simp only [ht,DV];cases lkB e0 l t<;>rfl
  |false=>
   have ht : ¬t<n:=by intro h;rw [show Nat.blt t n=true by simpa using h] at hb;cases hb
   simp [ht]
section
variable {α:Type} (P:Program) (C:ah) (n:Nat) (e0:aO)
def opsB (ops:Array Oper) (os:List Oper):AL->ae->(AL->ae->Option α)->Option α:=
 List.rec (motive:=fun _=>AL->ae->(AL->ae->Option α)->Option α) (fun l h k=>k l h)
  (fun o _ ih l h k=>
   match o.guard with
   |none=>aa (opA P C o (evB n e0 l) h) fun v h'=>ih (ru n l o.dst v) h' k
   |some (j,want)=>aa (al (nW n e0 ops l j==some want) (opA P C o (evB n e0 l) h) h) fun v h'=>ih (ru n l o.dst v) h' k) os
def Bo (ops:Array Oper) : ∀ (os:List Oper) (l:AL) (h:ae) (k:AL->ae->Option α) (kk:aO->ae->Option α),(∀ l h,k l h=kk (iH n e0 l) h) ->
  opsB P C n e0 ops os l h k=opsK P C ops os (iH n e0 l) h kk
 | [],l,h,k,kk,hk=>hk l h
 |o::rest,l,h,k,kk,hk=>by
  have ih : ∀ l h,List.rec (motive:=fun _=>AL->ae->(AL->ae->Option α)->Option α) (fun l h k=>k l h)
    (fun o _ ih l h k=>
     match o.guard with
     |none=>aa (opA P C o (evB n e0 l) h) fun v h'=>ih (ru n l o.dst v) h' k
     |some (j,want)=>aa (al (nW n e0 ops l j==some want) (opA P C o (evB n e0 l) h) h) fun v h'=>ih (ru n l o.dst v) h' k) rest l h k=opsK P C ops rest (iH n e0 l) h kk:=fun l h=>Bo ops rest l h k kk hk
  unfold opsB opsK;simp only [Ch,AB];cases hg:o.guard with
  |none=>
   simp only
   congr 1
   funext v h'
   rw [ih,uk]
  |some g=>
   obtain ⟨j,want⟩:=g;simp only
   congr 1
   funext v h'
   rw [ih,uk]
structure Tb where
 l:AL
 h:ae
 v:Vl
 sX:Bool
def chkB (os:List (Nat×Oper)) (tr:List Tb) (hs:List ae) (x:Nat×Nat):Bool:=
 match os[x.1]?,tr[x.1]?,qc (tr.map (·.sX)) hs (madeIn P os x) (if x.2<x.1 then x.2 else x.2+1) with
 |some y,some t,some h=>dW t.sX (opA P C y.2 (evB n e0 t.l) h) t.v
 |some _,some t,none => !t.sX
 |_,_,_=>false
def dynB (ops:Array Oper) (os:List (Nat×Oper)) (tr:List Tb) (hEnd:ae):Bool:=
 (px P ops os).foldr (fun x acc=>chkB P C n e0 os tr (tr.map (·.h) ++ [hEnd]) x&&acc) true
def Tb.up (n:Nat) (e0:aO) (t:Tb):Ce:=⟨iH n e0 t.l,t.h,t.v,t.sX⟩
def dynB_eq (ops:Array Oper) (os:List (Nat×Oper)) (tr:List Tb) (hEnd:ae):dynB P C n e0 ops os tr hEnd=va P C ops os (tr.map (Tb.up n e0)) hEnd:=by
 unfold dynB va
 congr 1
 funext x acc
 congr 1
 unfold chkB chkAt;have h1:(tr.map (Tb.up n e0)).map (·.h)=tr.map (·.h):=by simp [HY,Function.comp_def,Tb.up]
 have h2:(tr.map (Tb.up n e0)).map (·.sX)=tr.map (·.sX):=by simp [HY,Function.comp_def,Tb.up]
 rw [h1,h2,D4];cases os[x.1]? with
 |none=>rfl
 |some y=>
  cases tr[x.1]? with
  |none=>rfl
  |some t=>
   cases qc (tr.map (·.sX)) (List.map (fun x=>x.h) tr ++ [hEnd]) (madeIn P os x) (if x.2<x.1 then x.2 else x.2+1) with
   |none=>rfl
   |some h=>simp [Tb.up,Ch]
def Bz (ops:Array Oper) (os:List (Nat×Oper)):AL->ae->(List Tb->AL->ae->Option α)->Option α:=
 List.rec (motive:=fun _=>AL->ae->(List Tb->AL->ae->Option α)->Option α) (fun l h k=>k [] l h)
  (fun x _ ih l h k=>
   match x.2.guard with
   |none=>aa (opA P C x.2 (evB n e0 l) h) fun v h'=>ih (ru n l x.2.dst v) h' fun tr=>k (⟨l,h,v,true⟩::tr)
   |some (j,want)=>aa (al (nW n e0 ops l j==some want) (opA P C x.2 (evB n e0 l) h) h) fun v h'=>ih (ru n l x.2.dst v) h' fun tr=>k (⟨l,h,v,nW n e0 ops l j==some want⟩::tr)) os
def uX (ops:Array Oper) : ∀ (os:List (Nat×Oper)) (l:AL) (h:ae) (k:List Tb->AL->ae->Option α) (kk:List Ce->aO->ae->Option α),(∀ tr l h,k tr l h=kk (tr.map (Tb.up n e0)) (iH n e0 l) h) ->
  Bz P C n e0 ops os l h k=traceK P C ops os (iH n e0 l) h kk
 | [],l,h,k,kk,hk=>hk [] l h
 |x::rest,l,h,k,kk,hk=>by
  show (match x.2.guard with
   |none=>aa (opA P C x.2 (evB n e0 l) h) fun v h'=>Bz P C n e0 ops rest (ru n l x.2.dst v) h' fun tr=>k (⟨l,h,v,true⟩::tr)
   |some (j,want)=>aa (al (nW n e0 ops l j==some want) (opA P C x.2 (evB n e0 l) h) h) fun v h'=>Bz P C n e0 ops rest (ru n l x.2.dst v) h' fun tr=>k (⟨l,h,v,nW n e0 ops l j==some want⟩::tr))=_
  unfold traceK;simp only [Ch,AB];cases hg:x.2.guard with
  |none=>
   simp only
   congr 1
   funext v h'
   rw [uX ops rest (ru n l x.2.dst v) h' _ (fun tr=>kk (⟨iH n e0 l,h,v,true⟩::tr)) (fun tr l h=>by rw [hk];rfl),uk]
  |some g=>
   obtain ⟨j,want⟩:=g;simp only
   congr 1
   funext v h'
   rw [uX ops rest (ru n l x.2.dst v) h' _ (fun tr=>kk (⟨iH n e0 l,h,v,nW n e0 ops l j==some want⟩::tr)) (fun tr l h=>by rw [hk];rfl),uk]
def BW (ops:Array Oper) (draw:Bool) (l:AL) (h:ae) (k:AL->ae->Option α):Option α:=
 match draw with
 |false=>opsB P C n e0 ops ops.toList l h k
 |true=>
  match qs P ops with
  |true=>opsB P C n e0 ops ((late P ops).map (·.2)) l h k
  |false=>match r7 P ops (late P ops) with
   |true=>Bz P C n e0 ops (late P ops) l h fun tr l' h'=>match dynB P C n e0 ops (late P ops) tr h' with
    |true=>k l' h'
    |false=>none
   |false=>none
def regionB_eq (ops:Array Oper) (draw:Bool) (l:AL) (h:ae) (k:AL->ae->Option α) (kk:aO->ae->Option α) (hk : ∀ l h,k l h=kk (iH n e0 l) h) :
  BW P C n e0 ops draw l h k=ta P C ops draw (iH n e0 l) h kk:=by
 unfold BW ta;cases draw with
 |false=>exact Bo P C n e0 ops _ l h k kk hk
 |true=>
  simp only;cases qs P ops with
  |true=>exact Bo P C n e0 ops _ l h k kk hk
  |false=>
   simp only;cases r7 P ops (late P ops) with
   |false=>rfl
   |true=>
    refine uX P C n e0 ops _ l h _ _ ?_;intro tr l h;rw [dynB_eq];cases va P C ops (late P ops) (tr.map (Tb.up n e0)) h with
    |true=>exact hk l h
    |false=>rfl
def endN (o:Option (Ex×aO×ae)) (n r:aO->ae->Option α) (x:Nat->aO->ae->Option α):Option α:=
 match o with
 |some (.normal,e',h')=>n e' h'
 |some (.ret,e',h')=>r e' h'
 |some (.exit i,e',h')=>x i e' h'
 |none=>none
def yq (c:Code):AL->ae->(AL->ae->Option α)->(aO->ae->Option α)->(AL->ae->Option α)->(aO->ae->Option α)->(Nat->AL->ae->Option α)->(Nat->aO->ae->Option α)->Option α:=
 Code.rec (motive:=fun _=>AL->ae->(AL->ae->Option α)->(aO->ae->Option α)->(AL->ae->Option α)->(aO->ae->Option α)->(Nat->AL->ae->Option α)->(Nat->aO->ae->Option α)->Option α)
  (fun l h k _ _ _ _ _=>k l h)
  (fun _ ops draw l h k _ _ _ _ _=>BW P C n e0 ops draw l h k)
  (fun _ b ia ib l h k kE r rE x xE=>ia l h (fun l' h'=>ib l' h' k kE r rE x xE) (fun e' h'=>codeK P C b e' h' kE rE xE) r rE x xE)
  (fun q _ _ ia ib l h k kE r rE x xE=>match evB n e0 l q with
   | .bool true=>ia l h k kE r rE x xE
   | .bool false=>ib l h k kE r rE x xE
   |_=>none)
  (fun id _ ib l h k kE r rE x xE=>ib l h k kE r rE (fun i l' h'=>if i=id then k l' h' else x i l' h') (fun i e' h'=>if i=id then kE e' h' else xE i e' h'))
  (fun b _ l h _ _ _ rE _ xE=>dH (iter (codeA P C b) az (iH n e0 l) h) rE xE)
  (fun g ps a b _ _ l h _ kE _ rE _ xE=>endN (codeA P C (.rangeFunc g ps a b) (iH n e0 l) h) kE rE xE)
  (fun i l h _ _ _ _ x _=>x i l h)
  (fun _ ib l h k kE r rE x xE=>ib l h k kE r rE x xE)
  (fun _ l h k _ _ _ _ _=>k l h)
  (fun _ _ _ _ _ _ _ _ _=>none)
  (fun l h _ _ r _ _ _=>r l h)
  (fun _ _ _ _ _ _ _ _ _=>none) c
def lE : ∀ (c:Code) (l:AL) (h:ae) (k:AL->ae->Option α) (kE:aO->ae->Option α) (r:AL->ae->Option α) (rE:aO->ae->Option α) (x:Nat->AL->ae->Option α) (xE:Nat->aO->ae->Option α),
  (∀ l h,k l h=kE (iH n e0 l) h)->(∀ l h,r l h=rE (iH n e0 l) h)->(∀ i l h,x i l h=xE i (iH n e0 l) h) ->
  yq P C n e0 c l h k kE r rE x xE=codeK P C c (iH n e0 l) h kE rE xE
 | .skip,l,h,k,kE,r,rE,x,xE,hk,hr,hx=>hk l h
 | .region _ ops d,l,h,k,kE,r,rE,x,xE,hk,hr,hx=>regionB_eq P C n e0 ops d l h k kE hk
 | .seq a b,l,h,k,kE,r,rE,x,xE,hk,hr,hx=>by show yq P C n e0 a l h (fun l' h'=>yq P C n e0 b l' h' k kE r rE x xE) (fun e' h'=>codeK P C b e' h' kE rE xE) r rE x xE=_;exact lE a l h _ _ r rE x xE (fun l h=>lE b l h k kE r rE x xE hk hr hx) hr hx
 | .cond q a b,l,h,k,kE,r,rE,x,xE,hk,hr,hx=>by
   show (match evB n e0 l q with
    | .bool true=>yq P C n e0 a l h k kE r rE x xE
    | .bool false=>yq P C n e0 b l h k kE r rE x xE
    |_=>none)=_
   unfold codeK;rw [Ch,lE a l h k kE r rE x xE hk hr hx,lE b l h k kE r rE x xE hk hr hx];try rfl
 | .block id b,l,h,k,kE,r,rE,x,xE,hk,hr,hx=>by show yq P C n e0 b l h k kE r rE (fun i l' h'=>if i=id then k l' h' else x i l' h') (fun i e' h'=>if i=id then kE e' h' else xE i e' h')=_;exact lE b l h k kE r rE _ _ hk hr (fun i l h=>by simp only [hk,hx])
 | .loop b,l,h,k,kE,r,rE,x,xE,hk,hr,hx=>rfl
 | .exit i,l,h,k,kE,r,rE,x,xE,hk,hr,hx=>hx i l h
 | .scope b,l,h,k,kE,r,rE,x,xE,hk,hr,hx=>lE b l h k kE r rE x xE hk hr hx
 | .label _,l,h,k,kE,r,rE,x,xE,hk,hr,hx=>hk l h
 | .ret,l,h,k,kE,r,rE,x,xE,hk,hr,hx=>hr l h
 | .goto _,l,h,k,kE,r,rE,x,xE,hk,hr,hx=>rfl
 | .rangeFunc g ps a b,l,h,k,kE,r,rE,x,xE,hk,hr,hx=>rfl
 | .refuse _,l,h,k,kE,r,rE,x,xE,hk,hr,hx=>rfl
def u5 (c:Code) (h:ae) (kE rE:aO->ae->Option α) (xE:Nat->aO->ae->Option α):Option α:=
 yq P C n e0 c [] h (fun l h=>kE (iH n e0 l) h) kE (fun l h=>rE (iH n e0 l) h) rE (fun i l h=>xE i (iH n e0 l) h) xE
def u4 (hn:Nat.beq e0.length n=true) (c:Code) (h:ae) (kE rE:aO->ae->Option α) (xE:Nat->aO->ae->Option α) :
  codeK P C c e0 h kE rE xE=u5 P C n e0 c h kE rE xE:=by
 unfold u5;rw [lE P C n e0 c [] h (fun l h=>kE (iH n e0 l) h) kE (fun l h=>rE (iH n e0 l) h) rE (fun i l h=>xE i (iH n e0 l) h) xE (fun _ _=>rfl) (fun _ _=>rfl) (fun _ _ _=>rfl)];obtain rfl:=FW hn;rw [expB_nil]
end
def bodyB (P:Program) (C:ah) (fn:Func) (args:List Vl) (h:ae):aY:=
 match fn.body with
 |none=>none
 |some c=>u5 P C fn.ntmps (args++List.replicate (fn.ntmps-args.length) undef) c h (resultsA P fn.results.toList) (resultsA P fn.results.toList) (fun _ _ _=>none)
def aB (P:Program) (C:ah) (fn:Func) (args:List Vl) (h:ae) (hn:Nat.ble args.length fn.ntmps=true):aV P C fn args h=bodyB P C fn args h:=by
 unfold aV bodyB;cases fn.body with
 |none=>rfl
 |some c=>
  refine u4 P C _ _ ?_ c h _ _ _;have:=EH hn;have h2:(args++List.replicate (fn.ntmps-args.length) undef).length=fn.ntmps:=by simp;omega
  rw [h2];exact Nat.beq_refl _
def lkT {P:Program} {C:ah} {f:Func} {l:List Vl} {h:ae} {r:aY} (a:Nat.ble l.length f.ntmps=true) (b:bodyB P C f l h=r):aV P C f l h=r:=(aB P C f l h a).trans b
def roundB (P:Program) (C:ah) (n:Nat) (b:Code) (e:aO) (h:ae):Option (Ex×aO×ae):=
 u5 P C n e b h (fun e h=>some (.normal,e,h)) (fun e h=>some (.ret,e,h)) (fun i e h=>some (.exit i,e,h))
def roundB_eq (P:Program) (C:ah) (n:Nat) (b:Code) (e:aO) (h:ae) (hn:Nat.beq e.length n=true):roundK P C b e h=roundB P C n b e h:=
 u4 P C n e hn b h _ _ _
@[simp] theorem af {α : Type} (v : Vl) (h : ae) (k : Vl -> ae -> Option α) : aa (some (v, h)) k = k v h := rfl
@[simp] theorem thenV_none {α : Type} (k : Vl -> ae -> Option α) : aa none k = none := rfl
@[simp] theorem ak (v : Vl) (h : ae) : pu (some v) h = some (v, h) := rfl
@[simp] theorem aD (o : aY) (h : ae) : al true o h = o := rfl
@[simp] theorem aX (o : aY) (h : ae) : al false o h = some (undef, h) := rfl
@[simp] theorem aR (b : Bool) : bt (.bool b) = some b := rfl
@[simp] theorem bOf_undef : bt undef = none := rfl
@[simp] theorem endL_ret {α : Type} (e : aO) (h : ae) (r : aO -> ae -> Option α) (x : Nat -> aO -> ae -> Option α) : dH (some (.ret, e, h)) r x = r e h := rfl
@[simp] theorem bh {α : Type} (i : Nat) (e : aO) (h : ae) (r : aO -> ae -> Option α) (x : Nat -> aO -> ae -> Option α) : dH (some (.exit i, e, h)) r x = x i e h := rfl
@[simp] theorem av (b o : Nat) : nilCheckA (ptr b o) = some (ptr b o) := rfl
@[simp] theorem aw (b o n : Nat) : aC (ptr b o) n = some (ptr b (o + n)) := rfl
@[simp] theorem cM (p : Option Addr) (n c : Nat) : cg (.slice p n c) = some (.int .i64 n) := rfl
@[simp] theorem lenS_string (s : ByteArray) : lenS (.string s) = some (.int .i64 s.size) := rfl
@[simp] theorem dt (b : Bool) : unA .not (.bool b) = some (.bool !b) := rfl
@[simp] theorem extractA_tuple (vs : Array Vl) (i : Nat) : extractA (.tuple vs) i = vs[i]? := rfl
@[simp] theorem bY (k j : IntKind) (n : Int) (h : ae) : iQ k (.int j n) h = some (.int k (k.wrap n), h) := rfl
section
variable (P:Program) (t:TypeId) (k:IntKind) (a b:Int)
def ef (op:BinOp) (k':IntKind):aA P op t (.int k a) (.int k' b)=iw op k k' a b:=by cases op<;>rfl
@[simp] theorem eR : aA P .add t (.int k a) (.int k b) = some (.int k (k.wrap (a + b))) := by rw [ef]; simp [iw]
@[simp] theorem gR : aA P .sub t (.int k a) (.int k b) = some (.int k (k.wrap (a - b))) := by rw [ef]; simp [iw]
@[simp] theorem jM : aA P .mul t (.int k a) (.int k b) = some (.int k (k.wrap (a * b))) := by rw [ef]; simp [iw]
def w8 (hb:b≠0):aA P .quo t (.int k a) (.int k b)=some (.int k (k.wrap (a.tdiv b))):=by rw [ef];simp [iw,hb]
def Co (hb:b≠0):aA P .rem t (.int k a) (.int k b)=some (.int k (a.tmod b)):=by rw [ef];simp [iw,hb]
@[simp] theorem eQ : aA P .eql t (.int k a) (.int k b) = some (.bool (a == b)) := by rw [ef]; simp [iw]
@[simp] theorem dj : aA P .neq t (.int k a) (.int k b) = some (.bool (a != b)) := by rw [ef]; simp [iw]
@[simp] theorem cx : aA P .lss t (.int k a) (.int k b) = some (.bool (decide (a < b))) := by rw [ef]; simp [iw]
@[simp] theorem nQ : aA P .leq t (.int k a) (.int k b) = some (.bool (decide (a <= b))) := by rw [ef]; simp [iw]
@[simp] theorem dD : aA P .gtr t (.int k a) (.int k b) = some (.bool (decide (a > b))) := by rw [ef]; simp [iw]
@[simp] theorem eO : aA P .geq t (.int k a) (.int k b) = some (.bool (decide (a >= b))) := by rw [ef]; simp [iw]
end
def aH {h:ae} {b o:Nat} {k:eh} {c:Vl} (hg:h.get b=some k) (hc:k[o]? = some c) (hh:bW c=false:=by rfl):ld1 (ptr b o) h=some (c,h):=by unfold ld1 ptr;simp only [hg,hc,hh,DV]
def BC {h:ae} {b o n:Nat} {k:eh} (hg:h.get b=some k) (hc:o+n<=k.length) (hh:noHoles ((k.drop o).take n)=true):bQ n (ptr b o) h=some (.agg ((k.drop o).take n).toArray,h):=by unfold bQ ptr;simp only [hg,hc,hh,and_self,DV]
def iter_inv {step:aO->ae->Option (Ex×aO×ae)} {Inv:Nat->aO->ae->Prop} {fin:Ex->aO->ae->Prop}
  (hs : ∀ k e h,Inv k e h -> ∃ x e' h',step e h=some (x,e',h')/\((x = .normal /\ ∃ j,j<k/\Inv j e' h')\/(x ≠ .normal/\fin x e' h'))) :
  ∀ (k n:Nat) (e:aO) (h:ae),k<n->Inv k e h -> ∃ x e' h',iter step n e h=some (x,e',h')/\fin x e' h':=by
 intro k;induction k using Nat.strongRecOn with
 |_ k ih=>
  intro n e h hn hi;obtain ⟨m,rfl⟩ : ∃ m,n=m+1:=⟨n-1,by omega⟩
  obtain ⟨x,e',h',h1,h2|h2⟩:=hs k e h hi
  ·obtain ⟨rfl,j,hj,hi2⟩:=h2;obtain ⟨x,e2,h3,h4,h5⟩:=ih j hj m e' h' (by omega) hi2;exact ⟨x,e2,h3,by simp only [iter,h1];exact h4,h5⟩
  ·refine ⟨x,e',h',?_,h2.2⟩;simp only [iter,h1];cases x with
   |normal=>exact absurd rfl h2.1
   |ret=>rfl
   |exit i=>rfl
def wrap_i64_if (x:Int):IntKind.wrap .i64 x=if 9223372036854775808<=x%18446744073709551616 then x%18446744073709551616-18446744073709551616 else x%18446744073709551616:=by unfold IntKind.wrap;simp [IntKind.bits,IntKind.signed]
def bf {x:Int} (h1 : -9223372036854775808<=x) (h2:x<=9223372036854775807):IntKind.wrap .i64 x=x:=by rw [wrap_i64_if];split<;>omega
def jk {x:Int} (h1:0<=x) (h2:x<18446744073709551616):IntKind.wrap .u64 x=x:=by simp only [IntKind.wrap,IntKind.bits,IntKind.signed,E0,DB,DS];omega
def qn {x:Int} (h1:0<=x) (h2:x<4294967296):IntKind.wrap .u32 x=x:=by simp only [IntKind.wrap,IntKind.bits,IntKind.signed,E0,DB,DS];omega
def tw {x:Int} (h1:0<=x) (h2:x<65536):IntKind.wrap .u16 x=x:=by simp only [IntKind.wrap,IntKind.bits,IntKind.signed,E0,DB,DS];omega
def tv {x:Int} (h1:0<=x) (h2:x<256):IntKind.wrap .u8 x=x:=by simp only [IntKind.wrap,IntKind.bits,IntKind.signed,E0,DB,DS];omega
def fZ (x:Int):IntKind.wrap .u8 x=x%256:=by simp only [IntKind.wrap,IntKind.bits,IntKind.signed,E0,DB,DS];omega
def nN (x:Int):IntKind.wrap .u32 x=x%4294967296:=by simp only [IntKind.wrap,IntKind.bits,IntKind.signed,E0,DB,DS];omega
def CQ (x:Int):IntKind.wrap .u16 x=x%65536:=by simp only [IntKind.wrap,IntKind.bits,IntKind.signed,E0,DB,DS];omega
structure bE (P:Program) (f:FuncId) (fn:Func):Prop where
 at_:P.funcs[f]? = some fn
 name : (fn.name == "runtime.NumGoroutine") = false
 some_:fn.body.isSome=true
 ok:codeOk P (aq fn [])=true
def bE.of {P : Program} {f : FuncId} {fn : Func} (e : (P.funcs[f]?, fn.name == "runtime.NumGoroutine", fn.body.isSome, codeOk P (aq fn [])) = (some fn, false, true, true)) : bE P f fn := by simp only [DF] at e;exact ⟨e.1,e.2.1,e.2.2.1,e.2.2.2⟩
def bE.body {P:Program} {f:FuncId} {fn:Func} (i:bE P f fn):fn.body=some (aq fn []):=by
 have:=i.some_;unfold aq;cases h:fn.body with
 |none=>rw [h] at this;cases this
 |some c=>simp [oC]
def bU.mk' {P:Program} {C:ah} (hC:bk P C) (hm:P.follows .mixedOrders=true) {f:FuncId} {fn:Func} (i:bE P f fn) {s:List Vl->ae->aY}
  (told : ∀ args h v h',s args h=some (v,h')->bH h h'/\(cT h.next args=true->aE h->b9 h'.next v=true/\aE h'))
  (body : ∀ args h v h',s args h=some (v,h')->cT h.next args=true->aE h -> ∃ v1 h1 r,aV P C fn args h=some (v1,h1)/\Gc h v h' v1 h1 r):bU P f s:=
 .of_body hC hm i.at_ i.name i.body i.ok (fun a h v h' e=>(told a h v h' e).1) (fun a h v h' e=>(told a h v h' e).2) (fun a h v h' e h1 h2 _=>body a h v h' e h1 h2)
def bU.xl {P:Program} {C:ah} (hC:bk P C) (hm:P.follows .mixedOrders=true) {f:FuncId} {fn:Func} (i:bE P f fn) {s:List Vl->ae->aY}
  (told : ∀ args h v h',s args h=some (v,h')->h'=h /\ ∀ n,b9 n v=true)
  (body : ∀ args h v h',s args h=some (v,h')->cT h.next args=true->aE h -> ∃ h1,aV P C fn args h=some (v,h1) /\ ∀ b k,h.getB b=some k->h1.getB b=some k):bU P f s:=by
 refine .mk' hC hm i ?_ ?_
 ·intro args h v h' e;obtain ⟨rfl,h2⟩:=told _ _ _ _ e;exact ⟨bH.refl _,fun _ h3=>⟨h2 _,h3⟩⟩
 ·intro args h v h' e h1 h2;obtain ⟨rfl,h3⟩:=told _ _ _ _ e;obtain ⟨g,h4,h5⟩:=body _ _ _ _ e h1 h2;exact ⟨v,g,id,h4,.none (h3 _) h2 (fun b k _ h6=>h5 b k h6)⟩
def lkF (x:Nat->Vl) (l:AL) (t:Nat):Vl:=
 List.rec (motive:=fun _=>Vl) (x t) (fun p _ ih=>Bool.rec (motive:=fun _=>Vl) ih p.2 (Nat.beq p.1 t)) l
def mkE (n:Nat) (x:Nat->Vl) (l:AL):aO:=(List.range n).map (lkF x l)
def bs (l:List Vl):Nat->Vl:=fun i=>l.getD i undef
@[simp] theorem lkF_nil (x : Nat -> Vl) (t : Nat) : lkF x [] t = x t := rfl
def lkF_cons (x:Nat->Vl) (p:Nat×Vl) (l:AL) (t:Nat):lkF x (p::l) t=if p.1=t then p.2 else lkF x l t:=by
 show Bool.rec (motive:=fun _=>Vl) (lkF x l t) p.2 (Nat.beq p.1 t)=_;cases hb:Nat.beq p.1 t with
 |true=>rw [DH (FW hb)]
 |false=>rw [DL (GB hb)]
@[simp] theorem mkE_length (n : Nat) (x : Nat -> Vl) (l : AL) : (mkE n x l).length = n := by simp [mkE]
def jH (w n:Nat):BitVec.ofInt w (n:Int)=BitVec.ofNat w n:=by simp
section
variable (P:Program) (t:TypeId)
def CF {k:IntKind} (hk:k.signed=false) (n:Nat) (hn:n<2^k.bits):IntKind.wrap k (n:Int)=n:=by
 unfold IntKind.wrap;simp only [hk,E0,DB,DS];have:((2:Int)^k.bits)=((2^k.bits:Nat):Int):=by simp
 rw [this,<-Int.natCast_emod,FK hn]
def iP {k:IntKind} (hk:k.signed=false) {a b:Nat} (ha:a<2^k.bits) (hb:b<2^k.bits):aA P .xor t (.int k a) (.int k b)=some (.int k ((a ^^^ b:Nat):Int)):=by rw [ef];simp only [iw,ne_eq,not_true,DS,oL,jH,BitVec.toNat_xor,FV,FK ha,FK hb];rw [CF hk _ (GM ha hb)]
def pg {k:IntKind} (hk:k.signed=false) {a b:Nat} (ha:a<2^k.bits) (hb:b<2^k.bits):aA P .and t (.int k a) (.int k b)=some (.int k ((a &&& b:Nat):Int)):=by rw [ef];simp only [iw,ne_eq,not_true,DS,oL,jH,BitVec.toNat_and,FV,FK ha,FK hb];rw [CF hk _ (Nat.and_lt_two_pow a hb)]
def x7 {k:IntKind} (hk:k.signed=false) {a b:Nat} (ha:a<2^k.bits) (hb:b<2^k.bits):aA P .or t (.int k a) (.int k b)=some (.int k ((a ||| b:Nat):Int)):=by rw [ef];simp only [iw,ne_eq,not_true,DS,oL,jH,BitVec.toNat_or,FV,FK ha,FK hb];rw [CF hk _ (Nat.or_lt_two_pow ha hb)]
def dG {k k':IntKind} {a b:Nat} (hb:b<=k.bits):aA P .shr t (.int k a) (.int k' b)=some (.int k ((a/2^b:Nat):Int)):=by
 rw [ef];have h1 : ¬((b:Int)<0):=by omega
 simp only [iw,h1,DS,Int.toNat_natCast,GN hb];have:((2:Int)^b)=((2^b:Nat):Int):=by simp
 rw [this,Int.fdiv_eq_ediv_of_nonneg _ (Int.natCast_nonneg _)];rfl
end
structure au (h h':ae) (B:Nat->Prop):Prop where
 n0:h'.n0=h.n0
 next:h.next<=h'.next
 getB : ∀ c,c<h.next -> ¬B c->h'.getB c=h.getB c
def au.get {h h':ae} {B:Nat->Prop} (x:au h h' B) (c:Nat) (hc:c<h.next) (hB : ¬B c):h'.get c=h.get c:=by unfold ae.get;rw [x.getB c hc hB]
def au.obj {h h':ae} {B:Nat->Prop} (x:au h h' B) {c:Nat} {o:fF} (g:h.getB c=some (.obj o)) (hB : ¬B c):h'.getB c=some (.obj o):=(x.getB c (h.lt_of_getB g) hB).trans g
def au.refl (h:ae) (B:Nat->Prop):au h h B:=⟨rfl,DG _,fun _ _ _=>rfl⟩
def au.trans {a b c:ae} {B:Nat->Prop} (x:au a b B) (y:au b c B):au a c B:=
 ⟨y.n0.trans x.n0,D9 x.next y.next,fun d hd hb=>(y.getB d (EX hd x.next) hb).trans (x.getB d hd hb)⟩
def au.mono {a b:ae} {B B':Nat->Prop} (x:au a b B) (hB : ∀ c,c<a.next->B c->B' c):au a b B':=
 ⟨x.n0,x.next,fun d hd hb=>x.getB d hd (fun h=>hb (hB d hd h))⟩
def au.alloc (h:ae) (k:eh) (B:Nat->Prop):au h (h.alloc k) B:=
 ⟨rfl,by simp,fun c hc _=>by rw [ae.dg,DL (by omega)]⟩
def au.set {h:ae} {b:Nat} {k k':eh} {B:Nat->Prop} (hb:h.n0<=b) (hg:h.get b=some k) (hB:h.next<=b\/B b):au h (h.set b k') B:=
 ⟨rfl,by simp,fun c hc hn=>by
  by_cases e:c=b
  ·subst e;rcases hB with h1|h1
   ·omega
   ·exact absurd h1 hn
  ·exact ae.cj hb (h.aL hg) _ e⟩
def splice_one (k:List Vl) (o:Nat) (v:Vl) (ho:o<k.length):splice k o [v]=k.set o v:=by unfold splice;rw [List.set_eq_take_append_cons_drop,DH ho];simp
def dO {h:ae} {b o:Nat} {k:eh} {v:Vl} (hg:h.get b=some k) (ho:o<k.length) (hn:h.n0<=b) (hc:v.cells = #[v]) (hv:v.oneCell'=true) :
  bI 1 (ptr b o) v h=some (undef,h.set b (k.set o v)):=by
 unfold bI ptr;simp only [hc,FR,List.length_cons,List.length_nil,DC,DV];unfold stL;simp only [hg,List.length_cons,List.length_nil,DC];rw [DH (by simp [hn,aM,hv];omega),splice_one k o v ho];rfl
def aS (n:Nat) (x:Nat->Vl):aO:=(List.range n).map x
def up (x:Nat->Vl) (l:AL):Nat->Vl:=lkF x l
@[simp] theorem mL (x : Nat -> Vl) (t : Nat) : up x [] t = x t := rfl
def jj (x:Nat->Vl) (s:Nat) (v:Vl) (l:AL) (t:Nat):up x ((s,v)::l) t=if s=t then v else up x l t:=lkF_cons ..
@[simp] theorem yY (n : Nat) (x : Nat -> Vl) : (aS n x).length = n := by simp [aS]
def aW {P:Program} {C:ah} {n:Nat} {b:Code} {T:(Nat->Vl)->ae->Option (Ex×aO×ae)} (hT : ∀ x h,roundB P C n b (aS n x) h=T x h) (x:Nat->Vl) (h:ae) :
  codeA P C b (aS n x) h=T x h:=by
 rw [<-roundK_eq,roundB_eq P C n b _ h (by rw [yY];exact Nat.beq_refl n),<-hT]
def bg {α:Type} {P:Program} {C:ah} {n:Nat} {b:Code} {kE rE:aO->ae->Option α} {xE:Nat->aO->ae->Option α} {T:(Nat->Vl)->ae->Option α}
  (hT : ∀ x h,u5 P C n (aS n x) b h kE rE xE=T x h) (x:Nat->Vl) (h:ae) :
  codeK P C b (aS n x) h kE rE xE=T x h:=by
 rw [u4 P C n (aS n x) (by rw [yY];exact Nat.beq_refl n),<-hT]
def tc {P:Program} {C:ah} {n:Nat} {b:Code} {T:(Nat->Vl)->ae->Option (Ex×aO×ae)} (hT : ∀ x h,codeA P C b (aS n x) h=T x h)
  {Inv:Nat->(Nat->Vl)->ae->Prop} {fin:Ex->(Nat->Vl)->ae->Prop}
  (hs : ∀ k x h,Inv k x h -> ∃ ex x' h',T x h=some (ex,aS n x',h')/\((ex = .normal /\ ∃ j,j<k/\Inv j x' h')\/(ex ≠ .normal/\fin ex x' h')))
  {k:Nat} {x:Nat->Vl} {h:ae} (hk:k<az) (hi:Inv k x h) :
  ∃ ex x' h',iter (codeA P C b) az (aS n x) h=some (ex,aS n x',h')/\fin ex x' h':=by
 obtain ⟨ex,e',h',h1,x',rfl,h2⟩:=iter_inv (step:=codeA P C b) (Inv:=fun k e h => ∃ x,e=aS n x/\Inv k x h) (fin:=fun ex e h => ∃ x,e=aS n x/\fin ex x h)
  (by
   rintro k _ h ⟨x,rfl,hi⟩;obtain ⟨ex,x',h',h1,h2⟩:=hs k x h hi;refine ⟨ex,aS n x',h',(hT x h).trans h1,?_⟩;rcases h2 with ⟨h2,j,hj,h3⟩|⟨h2,h3⟩
   ·exact .inl ⟨h2,j,hj,x',rfl,h3⟩
   ·exact .inr ⟨h2,x',rfl,h3⟩)
  k az (aS n x) h hk ⟨x,rfl,hi⟩
 exact ⟨ex,x',h',h1,h2⟩
def sH (P : Program) (fn : Func) : Bool := !(fn.name == "runtime.NumGoroutine") && match fn.body with | some c => codeOk P c | none => false
section
variable {P:Program} {C:ah}
def ld_bd {t:TypeId} {x v:Vl} {h h':ae} (hb:aE h) (hx:b9 h.next x=true) (e:ld P t x h=some (v,h')):b9 h.next v=true:=by
 have hC:bk P (fun _ _ _=>none):=⟨by simp,by simp,by simp,by simp⟩
 have:=BV (P:=P) (C:=fun _ _ _=>none) (o:={ dst:=none,type:=0,op := .load t (.const x),after := #[],guard:=none,pos:=default }) (ρ:=fun o=>match o with | .const v=>v|_=>undef) hC hb
  (by
   intro y hy;have:y = .const x:=by simpa [Op.operands] using hy
   subst this;exact hx) (v:=v) (h':=h') e
 have hh:h'=h:=by
  unfold ld at e;split at e
  ·unfold bQ at e;split at e
   ·split at e
    ·split at e
     ·cases e;rfl
     ·cases e
    ·cases e
   ·cases e
  ·unfold ld1 at e
   repeat' split at e
   all_goals first
    | (cases e;done)
    | (simp only [DA,DF] at e;exact e.2.symm)
  ·cases e
 subst hh;exact this.1
def zl {r:ResultVar} {e:aO} {h:ae} {v:Vl} (hb:aE h) (he:cT h.next e=true) (x:dy P r e h=some v):b9 h.next v=true:=by
 have key : ∀ t,b9 h.next (e.getD t undef)=true:=by
  intro t;rw [DK];cases ht:e[t]? with
  |none=>rfl
  |some y=>exact eX.1 he y (D7 ht)
 cases r with
 |tmp t=>simp only [dy,DA] at x;subst x;exact key t
 |cell a t=>
  simp only [dy,DJ] at x;obtain ⟨⟨y,h'⟩,h1,rfl⟩:=x;exact ld_bd hb (key a) h1
def resultsA_bd {rs:List ResultVar} {e:aO} {h h':ae} {v:Vl} (hb:aE h) (he:cT h.next e=true) (x:resultsA P rs e h=some (v,h')):b9 h'.next v=true/\aE h':=by
 have hh:=jJ x;subst hh;refine ⟨?_,hb⟩;unfold resultsA at x;split at x
 ·simp only [DJ,DF] at x;obtain ⟨v1,hv1,rfl,_⟩:=x;exact zl hb he hv1
 ·simp only [DJ,DF] at x;obtain ⟨vs,hvs,rfl,_⟩:=x;show cT _ vs=true;rw [eX];intro y hy;have : ∀ (rs:List ResultVar) (vs:List Vl),rs.mapM (fun r=>dy P r e h')=some vs -> ∀ y∈vs,b9 h'.next y=true:=by
   intro rs;induction rs with
   |nil=>intro vs hvs y hy;simp at hvs;subst hvs;cases hy
   |cons r rs ih=>
    intro vs hvs y hy;simp only [FJ,Option.bind_eq_bind,DU,Option.pure_def,DA] at hvs;obtain ⟨a,ha,b,hb2,rfl⟩:=hvs;rcases ER.1 hy with rfl|hy
    ·exact zl hb he ha
    ·exact ih b hb2 y hy
  exact this _ _ hvs y hy
def bodyA_grow (hC:bk P C) {fn:Func} {args:List Vl} {h h':ae} {v:Vl} (he:bodyA P C fn args h=some (v,h')):bH h h':=by
 unfold bodyA at he;split at he
 ·cases he
 ·rename_i c hb;cases hc:codeA P C c (args++List.replicate (fn.ntmps-args.length) undef) h with
  |none=>rw [hc] at he;cases he
  |some y=>
   obtain ⟨ex,e1,h2⟩:=y;rw [hc] at he;have hgrow:resultsA P fn.results.toList e1 h2=some (v,h'):=by
    cases ex with
    |normal=>exact he
    |ret=>exact he
    |exit i=>cases he
   rw [jJ hgrow];exact bV hC c hc
def bodyA_bd (hC:bk P C) {fn:Func} {args:List Vl} {h h':ae} {v:Vl} (hok:sH P fn=true) (hg:P.globals.size<=h.n0) (he:bodyA P C fn args h=some (v,h')) (hba:cT h.next args=true) (hbh:aE h) :
  b9 h'.next v=true/\aE h':=by
 unfold bodyA at he;split at he
 ·cases he
 ·rename_i c hb;have hco:codeOk P c=true:=by unfold sH at hok;rw [hb] at hok;simp only [DD] at hok;exact hok.2
  cases hc:codeA P C c (args++List.replicate (fn.ntmps-args.length) undef) h with
  |none=>rw [hc] at he;cases he
  |some y=>
   obtain ⟨ex,e1,h2⟩:=y;rw [hc] at he;have hr:resultsA P fn.results.toList e1 h2=some (v,h'):=by
    cases ex with
    |normal=>exact he
    |ret=>exact he
    |exit i=>cases he
   obtain ⟨h3,h4⟩:=dN hC c hco hg (cL hba (eX.2 fun x hx=>by rw [ES hx];rfl)) hbh hc;exact resultsA_bd h4 h3 hr
end
def bare (P:Program):ae:=⟨P.globals.size,fun _=>none,.nil,0⟩
def puK (v:Option Vl) (h:ae):aY:=v.map fun v=>(v,h)
def pickK (c a b:Vl) (h:ae):aY:=
 match c with
 | .bool t=>some (if t then a else b,h)
 |_=>none
def funcK (f:Fn) (first captured:Array Vl) (h:ae):aY:=
 match f with
 | .yield _=>none
 |f=>some (.func f first captured,h)
def callK (P:Program) (C:ah) (c:Call) (ρ:Operand->Vl) (h:ae):aY:=
 match c.callee with
 | .builtin b=>builtinA P b c.argTypes.toList (c.args.toList.map ρ) h
 | .value f=>callA P C (ρ f) (c.args.toList.map ρ) h
 | .invoke _ _=>none
def binIK (op:BinOp):IntKind->IntKind->Int->Int->Option Vl:=
 BinOp.rec (motive:=fun _=>IntKind->IntKind->Int->Int->Option Vl)
  (fun k k' a b=>if k≠k' then none else some (.int k (k.wrap (a+b))))
  (fun k k' a b=>if k≠k' then none else some (.int k (k.wrap (a-b))))
  (fun k k' a b=>if k≠k' then none else some (.int k (k.wrap (a*b))))
  (fun k k' a b=>iw .quo k k' a b)
  (fun k k' a b=>iw .rem k k' a b)
  (fun k k' a b=>iw .and k k' a b)
  (fun k k' a b=>iw .or k k' a b)
  (fun k k' a b=>iw .xor k k' a b)
  (fun k k' a b=>iw .shl k k' a b)
  (fun k k' a b=>iw .shr k k' a b)
  (fun k k' a b=>iw .andNot k k' a b)
  (fun k k' a b=>if k≠k' then none else some (.bool (a==b)))
  (fun k k' a b=>if k≠k' then none else some (.bool (a != b)))
  (fun k k' a b=>if k≠k' then none else some (.bool (a<b)))
  (fun k k' a b=>if k≠k' then none else some (.bool (a<=b)))
  (fun k k' a b=>if k≠k' then none else some (.bool (a>b)))
  (fun k k' a b=>if k≠k' then none else some (.bool (a>=b)))
  op
def binIK_eq (op:BinOp) (k k':IntKind) (a b:Int):binIK op k k' a b=iw op k k' a b:=by cases op<;>rfl
def binK (P:Program) (op:BinOp) (t:TypeId) (x y:Vl):Option Vl:=
 match x with
 | .int k a=>match y with
   | .int k' b=>binIK op k k' a b
   |y=>aA P op t (.int k a) y
 |x=>aA P op t x y
def binK_eq (P:Program) (op:BinOp) (t:TypeId) (x y:Vl):binK P op t x y=aA P op t x y:=by
 unfold binK;split
 ·split
  ·rw [binIK_eq,ef]
  ·rfl
 ·rfl
def opK (op:Op):Program->ah->(Operand->Vl)->ae->aY:=
 Op.rec (motive:=fun _=>Program->ah->(Operand->Vl)->ae->aY)
   (fun x _P _C ρ h=>some (ρ x,h))
   (fun x _P _C ρ h=>some (ρ x,h))
   (fun c a b _P _C ρ h=>pickK (ρ c) (ρ a) (ρ b) h)
   (fun t P _C _ρ h=>zero P t h)
   (fun _t x _P _C ρ h=>box (ρ x) h)
   (fun t parts P _C ρ h=>puK (buildA P t (parts.toList.map fun (i,x)=>(i,ρ x))) h)
   (fun t len parts P _C ρ h=>buildSliceA P t len (parts.toList.map fun (i,x)=>(i,ρ x)) h)
   (fun t m k v P _C ρ h=>mapUpdateA P t (ρ m) (ρ k) (ρ v) h)
   (fun t x P _C ρ h=>ld P t (ρ x) h)
   (fun t x v P _C ρ h=>st P t (ρ x) (ρ v) h)
   (fun _g _P _C _ρ _h=>none)
   (fun _g _P _C _ρ _h=>none)
   (fun x _P _C ρ h=>puK (nilCheckA (ρ x)) h)
   (fun op t x y _t P _C ρ h=>puK (binK P op t (ρ x) (ρ y)) h)
   (fun op _t x _P _C ρ h=>puK (unA op (ρ x)) h)
   (fun s d x P _C ρ h=>convA P s d (ρ x) h)
   (fun _t _x _P _C _ρ _h=>none)
   (fun t x P _C ρ h=>puK (ifaceA P t (ρ x)) h)
   (fun f first captured _P _C ρ h=>funcK f (first.map ρ) (captured.map ρ) h)
   (fun t r P _C ρ h=>dX (r.map ρ) P t h)
   (fun _t _x _P _C _ρ _h=>none)
   (fun t l c P _C ρ h=>makeA P t (ρ l) (ρ c) h)
   (fun t x lo hi mx P _C ρ h=>puK (sliceA P t (ρ x) (lo.map ρ) (hi.map ρ) (mx.map ρ)) h)
   (fun t x i P _C ρ h=>puK (fieldAtA P t (ρ x) i) h)
   (fun t x i P _C ρ h=>puK (fieldA P t (ρ x) i) h)
   (fun t x i P _C ρ h=>puK (indexAtA P t (ρ x) (ρ i)) h)
   (fun t x i P _C ρ h=>puK (indexA P t (ρ x) (ρ i)) h)
   (fun t x k ok P _C ρ h=>lookupA P t (ρ x) (ρ k) ok h)
   (fun t m k v P _C ρ h=>mapUpdateA P t (ρ m) (ρ k) (ρ v) h)
   (fun t m k P _C ρ h=>iO P t (ρ m) (ρ k) h)
   (fun _t m s v _P _C ρ h=>entryStoreA (ρ m) (ρ s) (ρ v) h)
   (fun t x P _C ρ h=>rangeA P t (ρ x) h)
   (fun it str _P _C ρ h=>nextA (ρ it) str h)
   (fun it _P _C ρ h=>entryA (ρ it) h)
   (fun x _t t ok P _C ρ h=>puK (assertA P t ok (ρ x)) h)
   (fun t i _P _C ρ h=>puK (extractA (ρ t) i) h)
   (fun c P C ρ h=>callK P C c ρ h)
   (fun _c _P _C _ρ _h=>none)
   (fun _c _P _C _ρ _h=>none)
   (fun _x _P _C _ρ _h=>none)
   (fun _a _b _P _C _ρ _h=>none)
   (fun _t _c _b _P _C _ρ _h=>none)
   (fun _a _b _P _C _ρ _h=>none)
   op
def opK_eq (P:Program) (C:ah) (o:Oper) (ρ:Operand->Vl) (h:ae):opK o.op P C ρ h=opA P C o ρ h:=by
 obtain ⟨dst,op,type,pos,after,guard⟩:=o;cases op
 case binOp op t x y z=>
  show puK (binK P op t (ρ x) (ρ y)) h=_;rw [binK_eq];rfl
 case makeFunc f first captured=>cases f<;>rfl
 case call c=>
  cases c with
  |mk callee=>cases callee<;>rfl
 all_goals rfl
end
end Go.Abs
