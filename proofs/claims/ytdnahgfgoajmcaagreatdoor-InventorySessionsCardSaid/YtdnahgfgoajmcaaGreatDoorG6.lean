/-
  A part of the proof, spaces and names shortened by a program (a claim may hold 1,500,000 bytes).
  Conditions: as each theorem states.
-/
import Derived.Test.YtdnahgfgoajmcaaGreatDoorG5
import Derived.LoopNIn
namespace Go.Abs
section
def Av:Ex->Exit
 | .normal => .normal
 | .ret => .ret
 | .exit i => .exit i
section code
variable {P:Program} {C:au}
theorem eu {l:Nat} {e e':aX} {h h':ai} {x:Ex} (he:endLoopA l e h=some (x,e',h')) :
  ∃ st pend tmps params assign body,h.getB l=some (.obj (.loop st pend tmps params assign body))/\st ≠ .busy/\x=pend.getD .normal/\e'=e/\h'=h.setO l (.loop .exhausted pend tmps params assign body):=by
 unfold endLoopA at he;split at he
 ·rename_i st pend tmps params assign body hg;split at he
  ·cases he
  ·rename_i hb;cases he;exact ⟨st,pend,tmps,params,assign,body,hg,hb,rfl,rfl,rfl⟩
 ·cases he
theorem mB {g:Operand} {params:Array Tmp} {assign body:Code} {e e':aX} {h h':ai} {x:Ex} (he:codeA P C (.rangeFunc g params assign body) e h=some (x,e',h')) :
  ∃ i first captured v h2, ev e g = .func (.func i) first captured ∧ (∃ fn, P.funcs[i]? = some fn ∧ (fn.name == "runtime.NumGoroutine") = false ∧ fn.body.isNone = false) ∧
   C i (first.toList ++ [.func (.yield h.next) #[] #[]]++captured.toList) (h.br (.obj (.loop .ready none e params.toList assign body)))=some (v,h2)/\endLoopA h.next e h2=some (x,e',h'):=by
 simp only [codeA] at he;split at he
 ·rename_i i first captured hev
  split at he
  ·rename_i hi;split at he
   ·rename_i v h2 hc;refine ⟨i,first,captured,v,h2,hev,?_,hc,he⟩;unfold hasBody at hi;split at hi
    ·rename_i fn hf;rw [DK,FW] at hi;exact ⟨fn,hf,hi.2,by rw [Option.isNone_eq_false_iff];exact hi.1⟩
    ·cases hi
   ·cases he
  ·cases he
 ·cases he
theorem uR (hC:bp P C) {ops:Array Oper} : ∀ (l:List Oper) {e e':aX} {h h':ai},opsA P C ops l e h=some (e',h')->bD h h'
 | [],e,e',h,h',he=>by simp only [opsA,DA,DN] at he;obtain ⟨_,rfl⟩:=he;exact bD.refl _
 |o::l,e,e',h,h',he=>by
  simp only [opsA] at he;split at he
  ·rename_i e1 h1 hs;unfold stepA at hs;split at hs
   ·split at hs
    ·rename_i v hv hop;cases hs;exact (nO hC hop).trans (uR hC l he)
    ·cases hs
   ·cases hs;exact uR hC l he
  ·cases he
theorem tI (hC:bp P C) {ops:Array Oper} {d:Bool} {e e':aX} {h h':ai} (he:regionA P C ops d e h=some (e',h')):bD h h':=by
 unfold regionA at he;split at he
 ·split at he
  ·split at he
   ·rename_i tr e1 h1 htr;split at he
    ·simp only [DA,DN] at he;obtain ⟨rfl,rfl⟩:=he;obtain ⟨E,H,V,R,e0,h0,en,hn,T,_⟩:=qJ htr;rw [<-h0,<-hn];exact T.grow hC (FN _) (DD _)
    ·cases he
   ·cases he
  ·cases he
 ·exact uR hC _ he
theorem vK {step:aX->ai->Option (Ex×aX×ai)} (hs : ∀ e h x e' h',step e h=some (x,e',h')->bD h h') : ∀ (n:Nat) {e e':aX} {h h':ai} {x:Ex},iter step n e h=some (x,e',h')->bD h h'
 | 0,e,e',h,h',x,he=>by cases he
 |n+1,e,e',h,h',x,he=>by
  simp only [iter] at he;split at he
  ·rename_i e1 h1 h2;exact (hs _ _ _ _ _ h2).trans (vK hs n he)
  ·exact hs _ _ _ _ _ he
theorem cA (hC:bp P C) : ∀ (c:Code) {e e':aX} {h h':ai} {x:Ex},codeA P C c e h=some (x,e',h')->bD h h'
 | .skip,e,e',h,h',x,he=>by simp only [codeA,DA,DN] at he;obtain ⟨_,_,rfl⟩:=he;exact bD.refl _
 | .region _ ops d,e,e',h,h',x,he=>by
   simp only [codeA] at he;split at he
   ·rename_i e1 h1 h2;cases he;exact tI hC h2
   ·cases he
 | .seq a b,e,e',h,h',x,he=>by
   simp only [codeA] at he;split at he
   ·rename_i e1 h1 h2;exact (cA hC a h2).trans (cA hC b he)
   ·exact cA hC a he
 | .cond c a b,e,e',h,h',x,he=>by
   simp only [codeA] at he;split at he
   ·exact cA hC a he
   ·exact cA hC b he
   ·cases he
 | .block i b,e,e',h,h',x,he=>by
   simp only [codeA] at he;split at he
   ·rename_i j e1 h1 h2;simp only [DA,DN] at he;obtain ⟨_,_,rfl⟩:=he;exact cA hC b h2
   ·exact cA hC b he
 | .loop b,e,e',h,h',x,he=>by simp only [codeA] at he;exact vK (fun _ _ _ _ _ h=>cA hC b h) _ he
 | .exit _,e,e',h,h',x,he=>by simp only [codeA,DA,DN] at he;obtain ⟨_,_,rfl⟩:=he;exact bD.refl _
 | .scope b,e,e',h,h',x,he=>by simp only [codeA] at he;exact cA hC b he
 | .label _,e,e',h,h',x,he=>by simp only [codeA,DA,DN] at he;obtain ⟨_,_,rfl⟩:=he;exact bD.refl _
 | .ret,e,e',h,h',x,he=>by simp only [codeA,DA,DN] at he;obtain ⟨_,_,rfl⟩:=he;exact bD.refl _
 | .goto _,e,e',h,h',x,he=>by cases he
 | .rangeFunc ..,e,e',h,h',x,he=>by obtain ⟨i,first,captured,v,h2,_,_,hc,hl⟩:=mB he;obtain ⟨_,_,_,_,_,_,_,_,_,_,rfl⟩:=eu hl;exact ((bD.allocO _ _).trans (hC.grow _ _ _ _ _ hc)).trans (bD.setO _ _ _)
 | .refuse _,e,e',h,h',x,he=>by cases he
theorem B5 (hC:bp P C) {ops:Array Oper} : ∀ (l:List Oper) {e e':aX} {h h':ai},l.all (oF P)=true->P.globals.size<=h.n0->cW h.next e=true->aJ h->opsA P C ops l e h=some (e',h')->cW h'.next e'=true/\aJ h'
 | [],e,e',h,h',_,_,he,hh,h1=>by simp only [opsA,DA,DN] at h1;obtain ⟨rfl,rfl⟩:=h1;exact ⟨he,hh⟩
 |o::l,e,e',h,h',hok,hg,he,hh,h1=>by
  simp only [List.all_cons,DK] at hok;simp only [opsA] at h1;split at h1
  ·rename_i e1 h2 hs;unfold stepA at hs;split at hs
   ·split at hs
    ·rename_i v hv hop;cases hs;have hgr:=nO hC hop;obtain ⟨g1,g2⟩:=Ab hC hh (fun x hm=>wq hg he (DR.1 hok.1 x hm)) hop;exact B5 hC l hok.2 (by rw [hgr.2.1];exact hg) (mI (bZ hgr.1 he) g1) g2 h1
    ·cases hs
   ·cases hs;exact B5 hC l hok.2 hg (mI he rfl) hh h1
  ·cases h1
theorem zQ (hC:bp P C) {ops:Array Oper} {d:Bool} {e e':aX} {h h':ai} (hok:ops.toList.all (oF P)=true) (hg:P.globals.size<=h.n0) (hbe:cW h.next e=true) (hbh:aJ h)
  (he:regionA P C ops d e h=some (e',h')):cW h'.next e'=true/\aJ h':=by
 unfold regionA at he;split at he
 ·split at he
  ·split at he
   ·rename_i tr e1 h1 htr;split at he
    ·simp only [DA,DN] at he;obtain ⟨rfl,rfl⟩:=he;obtain ⟨E,H,V,R,e0,h0,en,hn,T,_⟩:=qJ htr;rw [<-en,<-hn];exact T.bd hC (by rw [h0];exact hg) (fun p x hx=>DR.1 hok x.2 (by rw [G0];exact HV (Aa.1 (E3 hx)))) (by rw [h0,e0];exact hbe) (by rw [h0];exact hbh) _ (DD _)
    ·cases he
   ·cases he
  ·cases he
 ·exact B5 hC _ hok hg hbe hbh he
theorem iter_bd (hC:bp P C) {b:Code} (hb : ∀ e h x e' h',P.globals.size<=h.n0->cW h.next e=true->aJ h->codeA P C b e h=some (x,e',h')->cW h'.next e'=true/\aJ h') :
  ∀ (n:Nat) {e e':aX} {h h':ai} {x:Ex},P.globals.size<=h.n0->cW h.next e=true->aJ h->iter (codeA P C b) n e h=some (x,e',h')->cW h'.next e'=true/\aJ h'
 | 0,e,e',h,h',x,_,_,_,he=>by cases he
 |n+1,e,e',h,h',x,hg,hbe,hbh,he=>by
  simp only [iter] at he;split at he
  ·rename_i e1 h1 h2;obtain ⟨g1,g2⟩:=hb _ _ _ _ _ hg hbe hbh h2;exact iter_bd hC hb n (by rw [(cA hC b h2).2.1];exact hg) g1 g2 he
  ·exact hb _ _ _ _ _ hg hbe hbh he
theorem dV (hC:bp P C) : ∀ (c:Code) {e e':aX} {h h':ai} {x:Ex},codeOk P c=true->P.globals.size<=h.n0->cW h.next e=true->aJ h->codeA P C c e h=some (x,e',h')->cW h'.next e'=true/\aJ h'
 | .skip,e,e',h,h',x,_,_,hbe,hbh,he=>by simp only [codeA,DA,DN] at he;obtain ⟨_,rfl,rfl⟩:=he;exact ⟨hbe,hbh⟩
 | .region _ ops d,e,e',h,h',x,hok,hg,hbe,hbh,he=>by
   simp only [codeOk] at hok;simp only [codeA] at he;split at he
   ·rename_i e1 h1 h2;cases he;exact zQ hC hok hg hbe hbh h2
   ·cases he
 | .seq a b,e,e',h,h',x,hok,hg,hbe,hbh,he=>by
   simp only [codeOk,DK] at hok;simp only [codeA] at he;split at he
   ·rename_i e1 h1 h2;obtain ⟨g1,g2⟩:=dV hC a hok.1 hg hbe hbh h2;exact dV hC b hok.2 (by rw [(cA hC a h2).2.1];exact hg) g1 g2 he
   ·exact dV hC a hok.1 hg hbe hbh he
 | .cond c a b,e,e',h,h',x,hok,hg,hbe,hbh,he=>by
   simp only [codeOk,DK] at hok;simp only [codeA] at he;split at he
   ·exact dV hC a hok.1.2 hg hbe hbh he
   ·exact dV hC b hok.2 hg hbe hbh he
   ·cases he
 | .block i b,e,e',h,h',x,hok,hg,hbe,hbh,he=>by
   simp only [codeOk] at hok;simp only [codeA] at he;split at he
   ·rename_i j e1 h1 h2;simp only [DA,DN] at he;obtain ⟨_,rfl,rfl⟩:=he;exact dV hC b hok hg hbe hbh h2
   ·exact dV hC b hok hg hbe hbh he
 | .loop b,e,e',h,h',x,hok,hg,hbe,hbh,he=>by simp only [codeOk] at hok;simp only [codeA] at he;exact iter_bd hC (fun _ _ _ _ _ h1 h2 h3 h4=>dV hC b hok h1 h2 h3 h4) _ hg hbe hbh he
 | .exit _,e,e',h,h',x,_,_,hbe,hbh,he=>by simp only [codeA,DA,DN] at he;obtain ⟨_,rfl,rfl⟩:=he;exact ⟨hbe,hbh⟩
 | .scope b,e,e',h,h',x,hok,hg,hbe,hbh,he=>by simp only [codeOk] at hok;simp only [codeA] at he;exact dV hC b hok hg hbe hbh he
 | .label _,e,e',h,h',x,_,_,hbe,hbh,he=>by simp only [codeA,DA,DN] at he;obtain ⟨_,rfl,rfl⟩:=he;exact ⟨hbe,hbh⟩
 | .ret,e,e',h,h',x,_,_,hbe,hbh,he=>by simp only [codeA,DA,DN] at he;obtain ⟨_,rfl,rfl⟩:=he;exact ⟨hbe,hbh⟩
 | .goto _,e,e',h,h',x,_,_,_,_,he=>by cases he
 | .rangeFunc g params assign body,e,e',h,h',x,hok,hg,hbe,hbh,he=>by
   simp only [codeOk] at hok;obtain ⟨i,first,captured,v,h2,hev,hi,hc,hl⟩:=mB he;obtain ⟨st,pend,tmps,ps,as,bo,hgl,_,_,rfl,rfl⟩:=eu hl;have hv:=wq hg hbe hok;rw [hev] at hv;obtain ⟨lf⟩:=first
   obtain ⟨lc⟩:=captured;simp only [cz,DK] at hv;have hal:aJ (h.br (.obj (.loop .ready none e' params.toList assign body))):=hbh.allocO (bZ (HZ _) hbe);obtain ⟨h3,h4⟩:=hC.bd _ _ _ _ _ hc (cg (cg (bZ (by simp) hv.2.1) (by simp [cW,cz,bdF])) (bZ (by simp) hv.2.2)) hal;have hgr:=hC.grow _ _ _ _ _ hc;have hob:=h4.obj _ _ hgl;refine ⟨bZ ?_ hbe,h4.setO (h2.bE hgl) hgl hob⟩;have:=hgr.1;simp only [ai.gF] at this;simp only [ai.kQ];omega
 | .refuse _,e,e',h,h',x,_,_,_,_,he=>by cases he
def dF (rs:List Nat):List Deferred:=rs.map fun r=>{ target := .collected r,args := #[] }
structure lz (s:Nat) (μ:Mu) (h:ai) (w:World) (rs:List Nat):Prop where
 dup:rs.Nodup
 fB : ∀ r∈rs,s<=r/\w.heap[r]? = some (.deferred (some [])) /\ ¬AN μ h r
theorem lz.step {s:Nat} {μ μ':Mu} {h h':ai} {w w':World} {rs:List Nat} (m:lz s μ h w rs) (st:cH μ h w μ' h' w'):lz s μ' h' w' rs:=by
 refine ⟨m.dup,fun r hr => ?_⟩;obtain ⟨h1,h2,h3⟩:=m.fB r hr;have hlt:=(DT.1 h2).1;refine ⟨h1,by rw [st.same r hlt h3];exact h2,fun ho => ?_⟩;rcases st.own r ho with h4|h4
 ·exact h3 h4
 ·omega
def RoOk (ro:Option Nat) (w:World):Prop := ∀ l,ro=some l -> ∃ r,w.heap[l]? = some (Obj.loop r)
theorem RoOk.step {ro:Option Nat} {μ μ':Mu} {h h':ai} {w w':World} (m:RoOk ro w) (st:cH μ h w μ' h' w'):RoOk ro w':=fun l hl=>by obtain ⟨r,hr⟩:=m l hl;exact st.loops l r hr
def rq (s:Nat) (μ:Mu) (h:ai) (w:World) (e':aX) (h':ai) (a':Act) (w':World):Prop:=
 ∃ μ' rs,cI μ' h' w'/\cH μ h w μ' h' w'/\iu (dF rs) μ' e' a'/\lz s μ' h' w' rs
def yy (P:Program) (C:au) (c:Code):Prop:=
 ∀ (ro:Option Nat) (nd s:Nat) (rs:List Nat) (e e':aX) (h h':ai) (x:Ex) (μ:Mu) (a:Act) (w:World) (Q:Exit->Act->World->Prop),codeA P C c e h=some (x,e',h')->P.globals.size<=h.n0->cW h.next e=true->aJ h->cI μ h w->fK μ h h' ->
   iu (dF rs) μ e a->lz s μ h w rs->s<=w.heap.size->RoOk ro w->(∀ a' w',rq s μ h w e' h' a' w'->Q (Av x) a' w')->c.wpIn (Fr ro) nd P Q a w
theorem rq.trans {s:Nat} {μ μ1:Mu} {h h1 h2:ai} {w w1 w2:World} {e2:aX} {a2:Act} (st:cH μ h w μ1 h1 w1) (b:rq s μ1 h1 w1 e2 h2 a2 w2):rq s μ h w e2 h2 a2 w2:=by obtain ⟨μ2,rs,hS,hSt,hr,hm⟩:=b;exact ⟨μ2,rs,hS,st.trans hSt,hr,hm⟩
theorem sR.m {s:Nat} {rs:List Nat} {μ:Mu} {h h':ai} {w w':World} {e':aX} {a':Act} (m:lz s μ h w rs) (b:sR (dF rs) μ h w e' h' a' w'):rq s μ h w e' h' a' w':=by obtain ⟨μ',hS,hSt,hr⟩:=b;exact ⟨μ',rs,hS,hSt,hr,m.step hSt⟩
theorem pz {F:Fence} {n:Nat} {Q:Exit->Act->World->Prop} {c:Code} (k:Nat) (a:Act) (w:World):Code.roundsIn F n P c Q (k+1) a w=c.wpIn F n P (Exit.then (Code.roundsIn F n P c Q k) Q) a w:=rfl
theorem Bm (hC:bp P C) {b:Code} (hb:yy P C b)
  (hbd : ∀ e h x e' h',P.globals.size<=h.n0->cW h.next e=true->aJ h->codeA P C b e h=some (x,e',h')->cW h'.next e'=true/\aJ h') : ∀ (n:Nat) {e e':aX} {h h':ai} {x:Ex} {ro:Option Nat} {nd s:Nat} {rs:List Nat} {μ:Mu} {a:Act} {w:World} {Q:Exit->Act->World->Prop},iter (codeA P C b) n e h=some (x,e',h') ->
  P.globals.size<=h.n0->cW h.next e=true->aJ h->cI μ h w->fK μ h h'->iu (dF rs) μ e a->lz s μ h w rs->s<=w.heap.size->RoOk ro w->(∀ a' w',rq s μ h w e' h' a' w'->Q (Av x) a' w')->Code.roundsIn (Fr ro) nd P b Q n a w
 | 0,_,_,_,_,_,_,_,_,_,_,_,_,_,he,_,_,_,_,_,_,_,_,_,_=>by cases he
 |n+1,e,e',h,h',x,ro,nd,s,rs,μ,a,w,Q,he,hg,hbe,hbh,S,hf,r,hmk,hsz,hro,hQ=>by
  rw [pz];simp only [iter] at he;split at he
  ·rename_i e1 h1 h2;have hgr:=cA hC b h2;have hgr2:=vK (fun _ _ _ _ _ h=>cA hC b h) _ he;refine hb _ _ s rs _ _ _ _ _ _ _ _ _ h2 hg hbe hbh S (hf.first hgr2.1) r hmk hsz hro ?_;rintro a1 w1 ⟨μ1,rs1,hS,hSt,hr,hmk1⟩;exact Bm hC hb hbd n he (by rw [hgr.2.1];exact hg) (hbd _ _ _ _ _ hg hbe hbh h2).1 (hbd _ _ _ _ _ hg hbe hbh h2).2 hS (hf.jJ hSt) hr hmk1 (D7 hsz hSt.size) (hro.step hSt) (fun a' w' hb'=>hQ a' w' (hb'.trans hSt))
  ·rename_i hne;refine hb _ _ s rs _ _ _ _ _ _ _ _ _ he hg hbe hbh S hf r hmk hsz hro ?_;intro a1 w1 hb1;have hq:=hQ a1 w1 hb1;cases x with
   |normal=>exact absurd he (hne _ _)
   |ret=>exact hq
   |exit i=>exact hq
theorem nQ {w:World} {l₀:Nat} {r₀:Loop} (fn:FuncId) (tmps:Array Value) (ps:Array Tmp) (assign body:Code) (hr:w.heap[l₀]? = some (Obj.loop r₀)) :
  (Instr.enterLoop fn tmps ps assign body (some l₀)).run P w =
   .ok (w.heap.size,[]) (w.alloc (.loop { state := .ready,pending:=none,fn,tmps,params:=ps,assign,body,defers:=r₀.defers })):=by
 unfold Instr.enterLoop;simp only [pure_bind, Sem.run_bind, run_getLoop hr, run_newObj_alloc, Result.andThen, Sem.run_pure]
section scope
variable {b:Frame} {a:Act} {k:List Item} {cs:List Frame} {w:World}
theorem iT {c:Code}:step P (lone (b.atR a (.code (.scope c)::k)) cs w) = .next (lone (b.atR a (.code c :: .inScope c::k)) cs w):=
 step_lone_go (by simp [stepG,stepG.exec,Frame.atR])
theorem AR {c:Code}:step P (lone (b.atR a (.inScope c::k)) cs w) = .next (lone (b.atR a k) cs w):=
 step_lone_go (by simp [stepG,stepG.exec,Frame.atR])
theorem kC {F:Fence} {n:Nat} {Q:Exit->Act->World->Prop} {c:Code} (h:c.wpIn F n P (Exit.noGoto Q) a w):(Code.scope c).wpIn F n P Q a w:=by
 intro b k cs hro hb hr;have h0:(lone (b.atR a (.code (.scope c)::k)) cs w).fenced P F:=fenced_calm hb hr rfl;obtain ⟨e,a₁,w₁,hq,harr⟩:=h b (.inScope c::k) cs hro hb hr;cases e with
 |normal=>exact ⟨.normal,a₁,w₁,hq,.head h0 iT (StepsIn.trans harr (.one (fenced_calm hb hr rfl) AR))⟩
 |exit id=>
  have hx:exitTo id (.inScope c::k)=exitTo id k:=by simp [exitTo]
  exact ⟨.exit id,a₁,w₁,hq,fun k' hk => .head h0 iT (harr.1 k' (by rw [hx];exact hk)),
   fun hr' hk=>let ⟨k₁,h1,h2⟩:=harr.2 hr' (by rw [hx];exact hk);⟨k₁,h1,.head h0 iT h2⟩⟩
 |goto l=>exact hq.elim
 |ret=>exact ⟨_,a₁,w₁,hq,.of_steps (.one h0 iT) harr⟩
 |panic ch=>exact ⟨_,a₁,w₁,hq,.of_steps (.one h0 iT) harr⟩
 |outgrown=>exact ⟨_,a₁,w₁,hq,.of_steps (.one h0 iT) harr⟩
end scope
theorem yH {F:Fence} {n:Nat} {Q:Exit->Act->World->Prop} {a:Act} {w:World} {x:Ex} (h:Q (Av x) a w):(Cj x).wpIn F n P Q a w:=by
 cases x with
 |normal=>exact wpIn_skip h
 |ret=>exact wpIn_ret h
 |exit i=>exact wpIn_exit h
theorem range_good (hC:bp P C) {g:Operand} {params:Array Tmp} {assign body:Code} (hok:codeOk P (.rangeFunc g params assign body)=true):yy P C (.rangeFunc g params assign body):=by
 intro ro nd s rs e e' h h' x μ a w Q he hg hbe hbh S hf r hmk hsz hro hQ;simp only [codeOk] at hok;obtain ⟨i,first,captured,v,h2,hev,⟨fn0,hfn,hname,hbody⟩,hc,hl⟩:=mB he;have hi:i<P.funcs.size:=(DT.1 hfn).1;obtain ⟨st,pend,tmps,ps,as,bo,hgl,hst,rfl,rfl,rfl⟩:=eu hl;have hgr:=hC.grow _ _ _ _ _ hc;have hgr1:h.next+1<=h2.next:=by have:=hgr.1;simpa using this
 have hbv:=wq hg hbe hok;have hal:aJ (h.br (.obj (.loop .ready none e' params.toList assign body))):=hbh.allocO (bZ (HZ _) hbe);have hrv:=sg S hg r hok;rw [hev] at hbv hrv;obtain ⟨fg,first',captured',hfe,hfg,hr1,hr2⟩:=hrv.nW;cases hfg;have hba:cW (h.br (.obj (.loop .ready none e' params.toList assign body))).next (first.toList ++ [.func (.yield h.next) #[] #[]]++captured.toList)=true:=by
  obtain ⟨lf⟩:=first
  obtain ⟨lc⟩:=captured;simp only [cz,DK] at hbv;exact cg (cg (bZ (by simp) hbv.2.1) (by simp [cW,cz,bdF])) (bZ (by simp) hbv.2.2)
 have hfree1:fK μ h (h.br (.obj (.loop .ready none e' params.toList assign body))):=fun b h1 h3=>hf b h1 (by simp at h3;simp only [ai.kQ];omega);have main : ∀ (fn:FuncId) (l:Nat) (rs':List Nat) (w1:World) (ob:Loop),(Instr.enterLoop fn a.tmps params assign body ro).run P w = .ok (l,dF rs') w1->w.heap.size<=l->w1.heap.size=l+1 ->
   (∀ C,C<w.heap.size->w1.heap[C]? = w.heap[C]?)->w1.heap[l]? = some (Obj.loop ob)->w1.os=w.os->w1.tape=w.tape->w1.output=w.output->w.drawn<=w1.drawn ->
   ob.state = .ready->ob.pending=none->ob.tmps=a.tmps->ob.params=params->ob.assign=assign->ob.body=body ->
   (∀ r∈rs',w.heap.size<=r/\r≠l/\w1.heap[r]? = some (.deferred (some [])))->rs'.Nodup ->
   ∃ (l:Nat) (mark:List Deferred) (w₁:World) (d:Deferred) (w₁':World) (f:FuncId) (args:Array Value) (w₂:World),
   (Instr.enterLoop fn a.tmps params assign body (Fr ro).round).run P w = .ok (l,mark) w₁ /\
   (resolve a.eval (rangeCall g l) 0).run P w₁ = .ok d w₁' /\
   (∀ f',Target.leads P w₁' d.target d.args=some f'->(Fr ro).fn f') /\
   (invoke d.target d.args).run P w₁' = .ok (.enter f args) w₂ /\
   ((Fr ro).depth.isSome=true->1<=nd) /\
   CallsIn (Fr ro) (nd-1) P f args w₂ (rangePost (Fr ro) nd P l Q { a with defers:=mark++a.defers }):=by
  intro fn l rs' w1 ob hent hl1 hl2 hold hnew ho ht hp hdw q1 q2 q3 q4 q5 q6 hrs hnd;obtain ⟨S1,St1⟩:=S.allocO (o := .loop .ready none e' params.toList assign body) hfree1 (ob := .loop ob) (w1:=w1) (B:=l) ho ht hp hl1 hl2 hold hnew
   ⟨q1,by rw [q2];rfl,by rw [q3];exact r.1.mono (Mu.jZ (hfree1 _ (DD _) (by simp))),by rw [q4],q5,q6⟩ hdw
  have hmono:=Mu.jZ (L:=⟨l,0,0,0⟩) (hfree1 _ (DD _) (by simp));have hyl:aI (μ.put h.next ⟨l,0,0,0⟩) (.func (.yield h.next) #[] #[]) (.func (.yield l) #[] #[]) := .func ⟨_,Mu.cJ _ _ _,rfl⟩ rfl (by simp) rfl (by simp);have hall:=((hr1.mono hmono).append (aR.cons hyl (aR.nil _))).append (hr2.mono hmono);have hfree2:fK (μ.put h.next ⟨l,0,0,0⟩) (h.br (.obj (.loop .ready none e' params.toList assign body))) h2:=(fK.jJ (h'':=h2) (fun b h1 h3=>hf b h1 h3) St1)
  have hcalls:=(hC.run _ _ _ _ _ hc hi hba hal (by simpa using hg) _ w1 _ S1 hfree2 hall).jz hfn hname hbody;refine ⟨l,dF rs',w1,{ target := .fn (.func i) captured',args:=first' ++ #[.func (.yield l) #[] #[]] },w1,i,_,w1,hent,?_,fun _ _=>trivial,?_,(fun h=>by cases h),(tF (r:=ro) (n:=nd-1) hcalls).mono ?_⟩
  ·unfold resolve;simp only [hfe,Deferred.ofValue,List.map_toArray,FR,HP,show a.eval (.const (.func (.yield l) #[] #[])) = .func (.yield l) #[] #[] from rfl];rfl
  ·simp only [invoke,callFunc,Sem.run_bind,run_program,Result.andThen_ok,hfn,hname,hbody,DG,EF,Sem.run_pure]
   congr 2
   apply IL;simp
  ·rintro en w3 ⟨μ3,v3,rfl,S3,St3,hv3⟩;have hμ3:μ3 h.next=some ⟨l,0,0,0⟩:=St3.mono hfree2 _ _ (Mu.cJ _ _ _);obtain ⟨L,ob3,g1,g2,g3,g4,g5⟩:=S3.obj h.next _ (h2.bE hgl) hgl;rw [hμ3] at g1;cases g1;cases ob3 with
   |loop r3=>
    obtain ⟨k1,k2,k3,k4,k5,k6⟩:=g3;have hend:(Instr.endLoop l).run P w3 = .ok r3.pending (w3.putObj l (.loop { r3 with state := .exhausted })):=run_endLoop g2 (by rw [k1];exact hst);refine ⟨r3.pending,_,hend,?_⟩;obtain ⟨S4,St4⟩:=S3.setO (o' := .loop .exhausted pend tmps ps as bo) (ob' := .loop { r3 with state := .exhausted }) hgl hμ3 ⟨rfl,k2,k3,k4,k5,k6⟩;have StA:=(St1.trans St3).trans St4;have hq:Q (Av (pend.getD .normal)) { a with defers:=dF rs'++a.defers } (w3.putObj l (.loop { r3 with state := .exhausted })):=by
     refine hQ _ _ ⟨μ3,rs'++rs,S4,StA,⟨?_,?_⟩,?_⟩
     ·exact r.1.mono (StA.mono hf)
     ·rw [r.2];simp [dF]
     ·have hm1:=hmk.step StA;have hnew2 : ∀ r∈rs',¬AN μ h r:=by rintro r hr ⟨b,k,L,o1,o2,o3,o4⟩;obtain ⟨L2,ob2,p1,p2,p3⟩:=S.place o1 o2;rw [p1] at o3;cases o3;have:=(DT.1 p2).1;have:=(hrs r hr).1;omega
      have own1 : ∀ r∈rs',¬AN (μ.put h.next ⟨l,0,0,0⟩) (h.br (.obj (.loop .ready none e' params.toList assign body))) r:=by
       rintro r hr ⟨b,k,L,o1,o2,o3,o4⟩;rw [h.bO] at o2;by_cases eb:b=h.next
       ·subst eb;rw [Mu.cJ] at o3;cases o3;exact (hrs r hr).2.1 o4.symm
       ·rw [DM eb] at o2;rw [Mu.c9 _ _ eb] at o3;exact hnew2 r hr ⟨b,k,L,o1,o2,o3,o4⟩
      have mk1:lz s (μ.put h.next ⟨l,0,0,0⟩) (h.br (.obj (.loop .ready none e' params.toList assign body))) w1 rs':=
       ⟨hnd,fun r hr=>⟨D7 hsz (hrs r hr).1,(hrs r hr).2.2,own1 r hr⟩⟩
      have mk2:=mk1.step (St3.trans St4);refine ⟨?_,fun r hr => ?_⟩
      ·rw [JJ];refine ⟨hnd,hmk.dup,fun x hx y hy e => ?_⟩;have h5:=(hrs x hx).1;have h6:=(DT.1 (hmk.fB y hy).2.1).1;omega
      ·rcases DU.1 hr with h5|h5
       ·exact mk2.fB r h5
       ·exact hm1.fB r h5
    generalize w3.putObj l (.loop { r3 with state := .exhausted })=W at hq |-;generalize r3.pending=q at k2 |-;subst k2;cases pend with
    |none=>exact hq
    |some y=>exact yH hq
   |_=>exact g3.elim
 refine wpIn_rangeFunc fun fn _ => ?_;cases ro with
 |none=>
  refine main fn (w.heap.size+1) [w.heap.size] _ _ (run_enterLoop_outer fn a.tmps params assign body) (HZ _) (by simp) ?_ (by have:=World.alloc_heap_new (w.alloc (.deferred (some []))) (.loop { state := .ready,pending:=none,fn,tmps:=a.tmps,params,assign,body,defers:=w.heap.size });simpa using this) rfl rfl rfl (DD _) rfl rfl rfl rfl rfl rfl ?_ (by simp)
  ·intro C hC;rw [dH _ _ _ (by simp;omega),dH _ _ _ hC]
  ·intro r hr;rw [EK.1 hr];refine ⟨DD _,by omega,?_⟩;rw [dH _ _ _ (by simp)];exact World.alloc_heap_new w _
 |some l₀=>
  obtain ⟨r₀,hr₀⟩:=hro l₀ rfl;exact main fn w.heap.size [] _ _ (nQ fn a.tmps params assign body hr₀) (DD _) (by simp) (fun C hC=>dH _ _ _ hC) (World.alloc_heap_new w _) rfl rfl rfl (DD _) rfl rfl rfl rfl rfl rfl (by simp) (by simp)
theorem dv (hC:bp P C) (hm:P.follows .mixedOrders=true) : ∀ (c:Code),codeOk P c=true->yy P C c
 | .skip,_=>by intro ro nd s rs e e' h h' x μ a w Q he hg hbe hbh S hf r hmk hsz hro hQ;simp only [codeA,DA,DN] at he;obtain ⟨rfl,rfl,rfl⟩:=he;exact wpIn_skip (hQ a w ⟨μ,rs,S,.cj,r,hmk⟩)
 | .region id ops d,hok=>by
   intro ro nd s rs e e' h h' x μ a w Q he hg hbe hbh S hf r hmk hsz hro hQ;simp only [codeOk] at hok;simp only [codeA] at he;split at he
   ·rename_i e1 h1 h2;cases he;cases d with
    |true=>exact mK hC hm hok h2 hg hbe hbh S hf r (fun a' w' hb=>hQ a' w' (hb.m hmk))
    |false=>exact ve hC hok (by simpa [regionA] using h2) hg hbe hbh S hf r (fun a' w' hb=>hQ a' w' (hb.m hmk))
   ·cases he
 | .seq b c,hok=>by
   intro ro nd s rs e e' h h' x μ a w Q he hg hbe hbh S hf r hmk hsz hro hQ;simp only [codeOk,DK] at hok;simp only [codeA] at he;refine wpIn_seq ?_;split at he
   ·rename_i e1 h1 h2;have hgr:=cA hC b h2;have hgr2:=cA hC c he;refine dv hC hm b hok.1 _ _ s rs _ _ _ _ _ _ _ _ _ h2 hg hbe hbh S (hf.first hgr2.1) r hmk hsz hro ?_;rintro a1 w1 ⟨μ1,rs1,hS,hSt,hr,hmk1⟩;exact dv hC hm c hok.2 _ _ s rs1 _ _ _ _ _ _ _ _ _ he (by rw [hgr.2.1];exact hg) (dV hC b hok.1 hg hbe hbh h2).1 (dV hC b hok.1 hg hbe hbh h2).2 hS (hf.jJ hSt) hr hmk1 (D7 hsz hSt.size) (hro.step hSt) (fun a' w' hb'=>hQ a' w' (hb'.trans hSt))
   ·rename_i hne;refine dv hC hm b hok.1 _ _ s rs _ _ _ _ _ _ _ _ _ he hg hbe hbh S hf r hmk hsz hro ?_;intro a1 w1 hb1;have hq:=hQ a1 w1 hb1;cases x with
    |normal=>exact absurd he (hne _ _)
    |ret=>exact hq
    |exit i=>exact hq
 | .cond c x y,hok=>by
   intro ro nd s rs e e' h h' ex μ a w Q he hg hbe hbh S hf r hmk hsz hro hQ;simp only [codeOk,DK] at hok;simp only [codeA] at he;have hv:=sg S hg r hok.1.1;split at he
   ·rename_i h1;rw [h1] at hv;exact wpIn_cond_true hv.bool (dv hC hm x hok.1.2 _ _ s rs _ _ _ _ _ _ _ _ _ he hg hbe hbh S hf r hmk hsz hro hQ)
   ·rename_i h1;rw [h1] at hv;exact wpIn_cond_false hv.bool (dv hC hm y hok.2 _ _ s rs _ _ _ _ _ _ _ _ _ he hg hbe hbh S hf r hmk hsz hro hQ)
   ·cases he
 | .block id b,hok=>by
   intro ro nd s rs e e' h h' x μ a w Q he hg hbe hbh S hf r hmk hsz hro hQ;simp only [codeOk] at hok;simp only [codeA] at he;refine wpIn_block ?_;split at he
   ·rename_i j e1 h1 h2;simp only [DA,DN] at he;obtain ⟨rfl,rfl,rfl⟩:=he;refine dv hC hm b hok _ _ s rs _ _ _ _ _ _ _ _ _ h2 hg hbe hbh S hf r hmk hsz hro ?_;intro a' w' hb';have hq:=hQ a' w' hb';simp only [Av,Exit.inBlock];by_cases hj:j=id
    ·rw [DL hj] at hq |-;exact hq
    ·rw [DM hj] at hq |-;exact hq
   ·rename_i hne;refine dv hC hm b hok _ _ s rs _ _ _ _ _ _ _ _ _ he hg hbe hbh S hf r hmk hsz hro ?_;intro a' w' hb';have hq:=hQ a' w' hb';cases x with
    |normal=>exact hq
    |ret=>exact hq
    |exit i=>exact absurd he (hne _ _ _)
 | .loop b,hok=>by intro ro nd s rs e e' h h' x μ a w Q he hg hbe hbh S hf r hmk hsz hro hQ;simp only [codeOk] at hok;simp only [codeA] at he;exact wpIn_loop_rounds _ (Bm hC (dv hC hm b hok) (fun _ _ _ _ _ h1 h2 h3 h4=>dV hC b hok h1 h2 h3 h4) _ he hg hbe hbh S hf r hmk hsz hro hQ)
 | .exit i,_=>by intro ro nd s rs e e' h h' x μ a w Q he hg hbe hbh S hf r hmk hsz hro hQ;simp only [codeA,DA,DN] at he;obtain ⟨rfl,rfl,rfl⟩:=he;exact wpIn_exit (hQ a w ⟨μ,rs,S,.cj,r,hmk⟩)
 | .scope b,hok=>by intro ro nd s rs e e' h h' x μ a w Q he hg hbe hbh S hf r hmk hsz hro hQ;simp only [codeOk] at hok;simp only [codeA] at he;refine kC (dv hC hm b hok _ _ s rs _ _ _ _ _ _ _ _ _ he hg hbe hbh S hf r hmk hsz hro ?_);intro a' w' hb';have hq:=hQ a' w' hb';cases x<;>exact hq
 | .label _,_=>by intro ro nd s rs e e' h h' x μ a w Q he hg hbe hbh S hf r hmk hsz hro hQ;simp only [codeA,DA,DN] at he;obtain ⟨rfl,rfl,rfl⟩:=he;exact wpIn_label (hQ a w ⟨μ,rs,S,.cj,r,hmk⟩)
 | .ret,_=>by intro ro nd s rs e e' h h' x μ a w Q he hg hbe hbh S hf r hmk hsz hro hQ;simp only [codeA,DA,DN] at he;obtain ⟨rfl,rfl,rfl⟩:=he;exact wpIn_ret (hQ a w ⟨μ,rs,S,.cj,r,hmk⟩)
 | .goto _,hok=>by simp [codeOk] at hok
 | .rangeFunc g params assign body,hok=>range_good hC hok
 | .refuse _,hok=>by simp [codeOk] at hok
theorem jW {rs:List ResultVar} {e:aX} {h h':ai} {v:Value} (he:resultsA P rs e h=some (v,h')):h'=h:=by
 unfold resultsA at he;split at he
 ·simp only [DQ,DN] at he;obtain ⟨_,_,_,rfl⟩:=he;rfl
 ·simp only [DQ,DN] at he;obtain ⟨_,_,_,rfl⟩:=he;rfl
def resV (tmps:Array Value):ResultVar->Sem Value
 | .tmp t=>pure (tmps.getD t undef)
 | .cell b t=>do loadVar t (<-asAddr (tmps.getD b undef))
theorem xS (fn:Func) (tmps:Array Value):results fn tmps=(do let vs <-fn.results.mapM (resV tmps);pure (if h:vs.size=1 then vs[0] else .tuple vs)):=rfl
theorem Ba {D:List Deferred} {μ:Mu} {h:ai} {w:World} {e:aX} {a:Act} (S:cI μ h w) (r:iu D μ e a) {x:ResultVar} {v:Value} (hv:gh P x e h=some v) :
  ∃ v',(resV a.tmps x).run P w = .ok v' w/\aI μ v v':=by
 cases x with
 |tmp t=>
  simp only [gh,DA] at hv;subst hv;refine ⟨_,rfl,?_⟩;have:=r.1.getD t;simpa using this
 |cell b t=>
  simp only [gh,DQ] at hv;obtain ⟨⟨v1,h1⟩,hl,rfl⟩:=hv;have hr:aI μ (e.getD b undef) (a.tmps.getD b undef):=by have:=r.1.getD b;simpa using this
  obtain ⟨_,r',hrun,hv'⟩:=ld_sound S hr hl;refine ⟨r',?_,hv'⟩;simp only [resV,Instr.loadAt,Sem.run_bind] at hrun |-;cases hx:a.tmps.getD b undef with
  |pointer p=>
   rw [hx] at hrun;cases p with
   |none=>simp [Instr.sureAddr] at hrun
   |some q=>simpa [Instr.sureAddr,asAddr] using hrun
  |_=>rw [hx] at hrun;simp [Instr.sureAddr] at hrun
theorem mapM_rel {D:List Deferred} {μ:Mu} {h:ai} {w:World} {e:aX} {a:Act} (S:cI μ h w) (r:iu D μ e a) : ∀ {rs:List ResultVar} {vs:List Value},rs.mapM (fun r=>gh P r e h)=some vs ->
  ∃ vs',(rs.mapM (resV a.tmps)).run P w = .ok vs' w/\aR μ vs vs'
 | [],vs,hv=>by simp at hv;subst hv;exact ⟨[],by simp,aR.nil μ⟩
 |x::rs,vs,hv=>by rw [HT] at hv;simp only [bind,DZ,pure,DA] at hv;obtain ⟨v,hv1,vs1,hv2,rfl⟩:=hv;obtain ⟨v',h1,h2⟩:=Ba S r hv1;obtain ⟨vs',h3,h4⟩:=mapM_rel S r hv2;refine ⟨v'::vs',?_,aR.cons h2 h4⟩;rw [HT,Sem.run_bind];rw [h1];simp only [Result.andThen_ok,Sem.run_bind];rw [h3];simp
theorem vZ {α β:Type} {f:α->Option β} : ∀ {l:List α} {r:List β},l.mapM f=some r->l.length=r.length
 | [],r,h=>by simp at h;subst h;rfl
 |x::l,r,h=>by rw [HT] at h;simp only [bind,DZ,pure,DA] at h;obtain ⟨a,_,r1,h2,rfl⟩:=h;simp [vZ h2]
theorem pJ {D:List Deferred} {μ:Mu} {h h':ai} {w:World} {e:aX} {a:Act} (S:cI μ h w) (r:iu D μ e a) {fn:Func} {v:Value} (hv:resultsA P fn.results.toList e h=some (v,h')) :
  ∃ v',(results fn a.tmps).run P w = .ok v' w/\aI μ v v':=by
 have main : ∀ {vs:List Value},fn.results.toList.mapM (fun r=>gh P r e h)=some vs -> ∃ vs',(fn.results.mapM (resV a.tmps)).run P w = .ok vs'.toArray w/\aR μ vs vs':=by intro vs hvs;obtain ⟨vs',h1,h2⟩:=mapM_rel S r hvs;refine ⟨vs',?_,h2⟩;rw [Array.mapM_eq_mapM_toList,Sem.run_map,h1];rfl
 unfold resultsA at hv;split at hv
 ·rename_i x hx;simp only [DQ,DN] at hv;obtain ⟨v1,hv1,rfl,rfl⟩:=hv;obtain ⟨vs',h1,h2⟩:=main (vs := [v1]) (by rw [hx];simp [hv1]);have hl:=h2.1
  match vs',hl with
  | [v'],_=>
    refine ⟨v',?_,h2.head⟩;rw [xS,Sem.run_bind];rw [h1];simp
 ·rename_i hne;simp only [DQ,DN] at hv;obtain ⟨vs,hvs,rfl,rfl⟩:=hv;obtain ⟨vs',h1,h2⟩:=main hvs;refine ⟨.tuple vs'.toArray,?_,.de h2⟩;rw [xS,Sem.run_bind];rw [h1];simp only [Result.andThen_ok,Sem.run_pure];have hlen:vs'.length≠1:=by rw [<-h2.1,<-vZ hvs];intro h1';obtain ⟨x,hx⟩:=List.length_eq_one_iff.1 h1';exact hne x hx
  rw [dif_neg (by simpa using hlen)]
end code
end
def af {α:Type} (r:bc) (k:Value->ai->Option α):Option α:=
 match r with
 |some (v,h)=>k v h
 |none=>none
def ay (g:Bool) (o:bc) (h:ai):bc:=
 match g with
 |true=>o
 |false=>some (undef,h)
def opsK {α:Type} (P:Program) (C:au) (ops:Array Oper):List Oper->aX->ai->(aX->ai->Option α)->Option α
 | [],e,h,k=>k e h
 |o::cU,e,h,k=>
  match o.guard with
  |none=>af (opA P C o (ev e) h) fun v h'=>opsK P C ops cU (putD e o.dst v) h' k
  |some (j,want)=>af (ay (iM ops e j==some want) (opA P C o (ev e) h) h) fun v h'=>opsK P C ops cU (putD e o.dst v) h' k
theorem um {α:Type} (P:Program) (C:au) (ops:Array Oper) : ∀ (l:List Oper) (e:aX) (h:ai) (k:aX->ai->Option α),
  opsK P C ops l e h k=match opsA P C ops l e h with|some (e',h')=>k e' h'|none=>none
 | [],e,h,k=>rfl
 |o::cU,e,h,k=>by
  unfold opsK opsA stepA iZ af;cases hg:o.guard with
  |none=>
   simp only [EA];cases opA P C o (ev e) h with
   |none=>rfl
   |some r=>exact um P C ops cU _ _ k
  |some g=>
   obtain ⟨j,want⟩:=g;simp only;by_cases hy:(iM ops e j==some want)=true
   ·simp only [hy,EA,ay];cases opA P C o (ev e) h with
    |none=>rfl
    |some r=>exact um P C ops cU _ _ k
   ·rw [DM hy];rw [HY] at hy;simp only [hy,ay];exact um P C ops cU _ _ k
theorem eF {α:Type} {l:List α} {x:α} {i:Nat}:(x,i)∈l.zipIdx↔l[i]? = some x:=by
 constructor
 ·intro h;obtain ⟨j,hj⟩:=JQ h;rw [List.getElem?_zipIdx,DQ] at hj;obtain ⟨z,hz,he⟩:=hj;simp only [DN,DH] at he;obtain ⟨rfl,rfl⟩:=he;exact hz
 ·intro h;have:l.zipIdx[i]? = some (x,i):=by rw [List.getElem?_zipIdx,h];simp
  exact E3 this
def Cv (P:Program) (ops:Array Oper) (l:List (Nat×Oper)):Bool:=
 let m:=im ops
 l.zipIdx.all fun x => !(kindOf P x.1.2 == .read)||l.zipIdx.all fun y => !(hard P y.1.2 y.2 x.2)||fP m x.1.1 y.1.1||fP m y.1.1 x.1.1
theorem zW {P:Program} {C:au} {ops:Array Oper} {l:List (Nat×Oper)} (ht:Cv P ops l=true) (tr:List Tr1) (hE:ai):dynOk P C ops l tr hE=true:=by
 unfold dynOk;unfold Cv at ht;simp only [DR,FY,FW,ID] at ht |-;intro x hx;by_cases hr:(kindOf P x.1.1.2 == .read&&x.1.2.tg)=true
 ·right;obtain ⟨⟨x1,t⟩,i⟩:=x;have hx1:(x1,i)∈l.zipIdx:=by rw [eF] at hx |-;exact (IG.1 hx).1
  intro y hy;have hy1:=EE.1 hy;left;rcases ht (x1,i) hx1 with h1|h1
  ·rw [h1] at hr;simp at hr
  ·rcases h1 y hy1.1 with (h2|h2)|h2
   ·rw [hy1.2] at h2;cases h2
   ·exact .inl h2
   ·exact .inr h2
 ·left;cases h1:(kindOf P x.1.1.2 == .read) with
  |false=>simp
  |true=>rw [h1] at hr;simpa using hr
theorem nM {P:Program} {C:au} {ops:Array Oper} : ∀ (l:List (Nat×Oper)) (e:aX) (h:ai),
  (traceA P C ops l e h).map (·.2)=opsA P C ops (l.map (·.2)) e h
 | [],e,h=>rfl
 | (i,o)::cU,e,h=>by
   simp only [traceA,FR,opsA,stepA];by_cases hw:iZ ops o e=true
   ·rw [DL hw,DL hw];cases opA P C o (ev e) h with
    |none=>rfl
    |some r=>
     obtain ⟨v,h'⟩:=r;simp only;have:=nM (P:=P) (C:=C) (ops:=ops) cU (putD e o.dst v) h';rw [<-this];cases traceA P C ops cU (putD e o.dst v) h'<;>rfl
   ·rw [DM hw,DM hw];simp only;have:=nM (P:=P) (C:=C) (ops:=ops) cU (putD e o.dst undef) h;rw [<-this];cases traceA P C ops cU (putD e o.dst undef) h<;>rfl
def qs (P:Program) (ops:Array Oper):Bool:=tc P ops (late P ops)&&Cv P ops (late P ops)
def pI (P:Program) (ops:Array Oper) (l:List (Nat×Oper)):List (Nat×Nat):=
 let m:=im ops
 (l.zipIdx.filter fun x=>kindOf P x.1.2 == .read).flatMap fun x=>
   (l.zipIdx.filter fun y=>hard P y.1.2 y.2 x.2 && !(fP m x.1.1 y.1.1||fP m y.1.1 x.1.1)).map fun y=>(x.2,y.2)
def cq (tg:Bool) (r:bc) (v:Value):Bool := !tg||same r v
def chkAt (P:Program) (C:au) (l:List (Nat×Oper)) (tr:List Tr1) (hs:List ai) (x:Nat×Nat):Bool:=
 match l[x.1]?,tr[x.1]?,qm (tr.map (·.tg)) hs (madeIn P l x) (if x.2<x.1 then x.2 else x.2+1) with
 |some y,some t,some h=>cq t.tg (opA P C y.2 (ev t.e) h) t.v
 |some _,some t,none => !t.tg
 |_,_,_=>false
def vq (P:Program) (C:au) (ops:Array Oper) (l:List (Nat×Oper)) (tr:List Tr1) (hEnd:ai):Bool:=
 (pI P ops l).foldr (fun x acc=>chkAt P C l tr (tr.map (·.h) ++ [hEnd]) x&&acc) true
theorem Bw {α:Type} (f:α->Bool) : ∀ l:List α,l.foldr (fun x acc=>f x&&acc) true=l.all f
 | []=>rfl
 |x::l=>by simp only [List.foldr_cons,List.all_cons,Bw f l]
theorem dynChk_eq {P:Program} {C:au} {ops:Array Oper} {l:List (Nat×Oper)} {tr:List Tr1} {hEnd:ai} (hlen:tr.length=l.length):vq P C ops l tr hEnd=dynOk P C ops l tr hEnd:=by
 unfold vq dynOk;rw [Bw,IT];simp only [DR];have hz : ∀ (x:Nat×Oper) (t:Tr1) (i:Nat),((x,t),i)∈(l.zip tr).zipIdx↔l[i]? = some x/\tr[i]? = some t:=by intro x t i;rw [eF,IG]
 constructor
 ·rintro h ⟨⟨x,t⟩,i⟩ hx;obtain ⟨hx1,hx2⟩:=(hz x t i).1 hx;simp only [FY,FW,ID,DR];by_cases hr:(kindOf P x.2 == .read)=true
  ·by_cases hran:t.tg=true
   ·right;rintro ⟨y,j⟩ hy;rw [EE,eF] at hy;simp only at hy |-;by_cases hb:(fP (im ops) x.1 y.1||fP (im ops) y.1 x.1)=true
    ·left;simpa using hb
    ·right;have hp:(i,j)∈pI P ops l:=by unfold pI;simp only [HO,EE,E0];exact ⟨(x,i),⟨eF.2 hx1,hr⟩,(y,j),⟨eF.2 hy.1,by simp only [hy.2,EM];simpa using hb⟩,rfl⟩
     have:=h _ hp;unfold chkAt at this;simp only [hx1,hx2] at this;split at this
     ·rename_i h1 h2 h3;cases h1;cases h2;rw [h3];simpa [cq,hran] using this
     ·rename_i h1 h2 h3;cases h2;rw [hran] at this;simp at this
     ·simp at this
   ·left;right;simpa using hran
  ·left;left;simpa using hr
 ·rintro h ⟨i,j⟩ hp;unfold pI at hp;simp only [HO,EE,E0] at hp;obtain ⟨⟨x,i'⟩,⟨hx1,hr⟩,⟨y,j'⟩,⟨hy1,hy2⟩,he⟩:=hp;simp only [DN] at he;obtain ⟨rfl,rfl⟩:=he;rw [eF] at hx1 hy1;simp only [DK] at hr hy2;have hi:i'<tr.length:=by rw [hlen];exact (EV.1 hx1).1
  have ht:tr[i']? = some tr[i']:=DB hi;have hq:=h ((x,tr[i']),i') ((hz _ _ _).2 ⟨hx1,ht⟩);simp only [hr,EM,FY,FW,DR] at hq;unfold chkAt;simp only [hx1,ht];have key:tr[i'].tg=true->(match qm (tr.map (·.tg)) (List.map (fun x=>x.h) tr ++ [hEnd]) (madeIn P l (i',j')) (if j'<i' then j' else j'+1) with|some h=>same (opA P C x.2 (ev tr[i'].e) h) tr[i'].v|none=>false)=true:=by
   intro hran;rcases hq with hq|hq
   ·rw [hran] at hq;cases hq
   ·have:=hq (y,j') (EE.2 ⟨eF.2 hy1,hy2.1⟩);simp only at this;have hy3:=hy2.2;rcases this with h1|h1
    ·have h1':(fP (im ops) x.1 y.1||fP (im ops) y.1 x.1)=true:=by simpa using h1
     simp [h1'] at hy3
    ·exact h1
  split
  ·rename_i h1 h2 h3;cases h1;cases h2;unfold cq;cases hran:tr[i'].tg with
   |false=>rfl
   |true=>have:=key hran;rw [h3] at this;simpa using this
  ·rename_i h1 h2 h3;cases h2;cases hran:tr[i'].tg with
   |false=>rfl
   |true=>have:=key hran;rw [h3] at this;simp at this
  ·rename_i h1 h2;cases hh:qm (tr.map (·.tg)) (List.map (fun x=>x.h) tr ++ [hEnd]) (madeIn P l (i',j')) (if j'<i' then j' else j'+1) with
   |some hp'=>exact absurd hh (h1 _ _ _ rfl rfl)
   |none=>exact absurd hh (h2 _ _ rfl rfl)
def traceK {α:Type} (P:Program) (C:au) (ops:Array Oper):List (Nat×Oper)->aX->ai->(List Tr1->aX->ai->Option α)->Option α
 | [],e,h,k=>k [] e h
 |x::cU,e,h,k=>
  match x.2.guard with
  |none=>af (opA P C x.2 (ev e) h) fun v h'=>traceK P C ops cU (putD e x.2.dst v) h' fun tr=>k (⟨e,h,v,true⟩::tr)
  |some (j,want)=>af (ay (iM ops e j==some want) (opA P C x.2 (ev e) h) h) fun v h'=>traceK P C ops cU (putD e x.2.dst v) h' fun tr=>k (⟨e,h,v,iM ops e j==some want⟩::tr)
theorem qU {α:Type} (P:Program) (C:au) (ops:Array Oper) : ∀ (l:List (Nat×Oper)) (e:aX) (h:ai) (k:List Tr1->aX->ai->Option α),
  traceK P C ops l e h k=match traceA P C ops l e h with|some (tr,e',h')=>k tr e' h'|none=>none
 | [],e,h,k=>rfl
 | (i,o)::cU,e,h,k=>by
   unfold traceK traceA iZ af;simp only;cases hg:o.guard with
   |none=>
    simp only [EA];cases opA P C o (ev e) h with
    |none=>rfl
    |some r=>
     simp only;rw [qU P C ops cU];cases traceA P C ops cU (putD e o.dst r.1) r.2<;>rfl
   |some g=>
    obtain ⟨j,want⟩:=g;simp only;by_cases hy:(iM ops e j==some want)=true
    ·simp only [hy,EA,ay];cases opA P C o (ev e) h with
     |none=>rfl
     |some r=>
      simp only;rw [qU P C ops cU];cases traceA P C ops cU (putD e o.dst r.1) r.2<;>rfl
    ·rw [DM hy];rw [HY] at hy;simp only [hy,ay];rw [qU P C ops cU];cases traceA P C ops cU (putD e o.dst undef) h<;>rfl
theorem nu {P:Program} {C:au} {ops:Array Oper} : ∀ {l:List (Nat×Oper)} {e e':aX} {h h':ai} {tr:List Tr1},traceA P C ops l e h=some (tr,e',h')->tr.length=l.length
 | [],e,e',h,h',tr,ht=>by simp only [traceA,DA,DN] at ht;rw [<-ht.1];rfl
 | (i,o)::cU,e,e',h,h',tr,ht=>by
   simp only [traceA] at ht;split at ht
   ·split at ht
    ·split at ht
     ·rename_i r h5;obtain ⟨e2,h2⟩:=r;simp only [DA,DN] at ht;obtain ⟨rfl,_⟩:=ht;simp [nu h5]
     ·cases ht
    ·cases ht
   ·split at ht
    ·rename_i r h5;obtain ⟨e2,h2⟩:=r;simp only [DA,DN] at ht;obtain ⟨rfl,_⟩:=ht;simp [nu h5]
    ·cases ht
def tL {α:Type} (P:Program) (C:au) (ops:Array Oper) (draw:Bool) (e:aX) (h:ai) (k:aX->ai->Option α):Option α:=
 match draw with
 |false=>opsK P C ops ops.toList e h k
 |true=>
  match qs P ops with
  |true=>opsK P C ops ((late P ops).map (·.2)) e h k
  |false=>match tc P ops (late P ops) with
   |true=>traceK P C ops (late P ops) e h fun tr e' h'=>match vq P C ops (late P ops) tr h' with
    |true=>k e' h'
    |false=>none
   |false=>none
theorem regionK_eq {α:Type} (P:Program) (C:au) (ops:Array Oper) (draw:Bool) (e:aX) (h:ai) (k:aX->ai->Option α) :
  tL P C ops draw e h k=match regionA P C ops draw e h with|some (e',h')=>k e' h'|none=>none:=by
 unfold tL;cases draw with
 |false=>simp only [um,regionA];rfl
 |true=>
  simp only;cases hl:qs P ops with
  |false=>
   simp only [qU,regionA,EA];cases hs:tc P ops (late P ops) with
   |false=>rfl
   |true=>
    simp only [EA];cases ht:traceA P C ops (late P ops) e h with
    |none=>rfl
    |some r=>
     obtain ⟨tr,e',h'⟩:=r;simp only;rw [dynChk_eq (nu ht)];cases dynOk P C ops (late P ops) tr h'<;>rfl
  |true=>
   simp only [qs,DK] at hl;simp only [um,regionA,EA,hl.1,<-nM];cases ht:traceA P C ops (late P ops) e h with
   |none=>rfl
   |some r=>
    obtain ⟨tr,e',h'⟩:=r;simp [zW hl.2]
def codeK {α:Type} (P:Program) (C:au):Code->aX->ai->(aX->ai->Option α)->(aX->ai->Option α)->(Nat->aX->ai->Option α)->Option α
 | .skip,e,h,n,_,_=>n e h
 | .region _ ops draw,e,h,n,_,_=>tL P C ops draw e h n
 | .seq a b,e,h,n,r,x=>codeK P C a e h (fun e' h'=>codeK P C b e' h' n r x) r x
 | .cond c a b,e,h,n,r,x=>match ev e c with
   | .bool true=>codeK P C a e h n r x
   | .bool false=>codeK P C b e h n r x
   |_=>none
 | .block id b,e,h,n,r,x=>codeK P C b e h n r (fun i e' h'=>if i=id then n e' h' else x i e' h')
 | .loop b,e,h,_,r,x=>match iter (codeA P C b) aD e h with
   |some (.ret,e',h')=>r e' h'
   |some (.exit i,e',h')=>x i e' h'
   |_=>none
 | .exit i,e,h,_,_,x=>x i e h
 | .scope b,e,h,n,r,x=>codeK P C b e h n r x
 | .label _,e,h,n,_,_=>n e h
 | .ret,e,h,_,r,_=>r e h
 | .goto _,_,_,_,_,_=>none
 | .rangeFunc g ps a b,e,h,n,r,x=>match codeA P C (.rangeFunc g ps a b) e h with
   |some (.normal,e',h')=>n e' h'
   |some (.ret,e',h')=>r e' h'
   |some (.exit i,e',h')=>x i e' h'
   |none=>none
 | .refuse _,_,_,_,_,_=>none
theorem pj {step:aX->ai->Option (Ex×aX×ai)} : ∀ (n:Nat) (e:aX) (h:ai) {e':aX} {h':ai},iter step n e h≠some (.normal,e',h')
 | 0,_,_,_,_=>by simp [iter]
 |n+1,e,h,e',h'=>by
  unfold iter;split
  ·exact pj n _ _
  ·rename_i hne;exact hne e' h'
def endK {α:Type} (n r:aX->ai->Option α) (x:Nat->aX->ai->Option α):Option (Ex×aX×ai)->Option α
 |some (.normal,e,h)=>n e h
 |some (.ret,e,h)=>r e h
 |some (.exit i,e,h)=>x i e h
 |none=>none
theorem kh {α:Type} (P:Program) (C:au) : ∀ (c:Code) (e:aX) (h:ai) (n r:aX->ai->Option α) (x:Nat->aX->ai->Option α),
  codeK P C c e h n r x=endK n r x (codeA P C c e h)
 | .skip,e,h,n,r,x=>rfl
 | .region id ops d,e,h,n,r,x=>by simp only [codeK,codeA,regionK_eq];cases regionA P C ops d e h<;>rfl
 | .seq a b,e,h,n,r,x=>by
   simp only [codeK,codeA];rw [kh P C a];cases ha:codeA P C a e h with
   |none=>rfl
   |some y=>
    obtain ⟨ex,e',h'⟩:=y;cases ex with
    |normal=>simp only [endK];exact kh P C b _ _ _ _ _
    |ret=>rfl
    |exit i=>rfl
 | .cond c a b,e,h,n,r,x=>by
   simp only [codeK,codeA];generalize ev e c=v;cases v with
   |bool t=>
    cases t with
    |true=>exact kh P C a _ _ _ _ _
    |false=>exact kh P C b _ _ _ _ _
   |_=>rfl
 | .block id b,e,h,n,r,x=>by
   simp only [codeK,codeA];rw [kh P C b];cases hb:codeA P C b e h with
   |none=>rfl
   |some y=>
    obtain ⟨ex,e',h'⟩:=y;cases ex with
    |normal=>rfl
    |ret=>rfl
    |exit i=>
     simp only [endK];by_cases hi:i=id
     ·simp [hi]
     ·simp [hi]
 | .loop b,e,h,n,r,x=>by
   simp only [codeK,codeA];cases hb:iter (codeA P C b) aD e h with
   |none=>rfl
   |some y=>
    obtain ⟨ex,e',h'⟩:=y;cases ex with
    |normal=>exact absurd hb (pj _ _ _)
    |ret=>rfl
    |exit i=>rfl
 | .exit i,e,h,n,r,x=>rfl
 | .scope b,e,h,n,r,x=>by simp only [codeK,codeA];exact kh P C b _ _ _ _ _
 | .label _,e,h,n,r,x=>rfl
 | .ret,e,h,n,r,x=>rfl
 | .goto _,e,h,n,r,x=>rfl
 | .rangeFunc g ps a b,e,h,n,r,x=>by
   simp only [codeK];cases codeA P C (.rangeFunc g ps a b) e h with
   |none=>rfl
   |some y=>obtain ⟨ex,e',h'⟩:=y;cases ex<;>rfl
 | .refuse _,e,h,n,r,x=>rfl
def bw (P:Program) (C:au) (fn:Func) (args:List Value) (h:ai):bc:=
 match fn.body with
 |none=>none
 |some c=>codeK P C c (args++List.replicate (fn.ntmps-args.length) undef) h (resultsA P fn.results.toList) (resultsA P fn.results.toList) (fun _ _ _=>none)
theorem xZ (P:Program) (C:au) (fn:Func) (args:List Value) (h:ai):bw P C fn args h=bodyA P C fn args h:=by
 unfold bw bodyA;cases fn.body with
 |none=>rfl
 |some c=>
  simp only [kh];cases codeA P C c (args++List.replicate (fn.ntmps-args.length) undef) h with
  |none=>rfl
  |some y=>
   obtain ⟨ex,e',h'⟩:=y;cases ex<;>rfl
def roundK (P:Program) (C:au) (b:Code) (e:aX) (h:ai):Option (Ex×aX×ai):=
 codeK P C b e h (fun e h=>some (.normal,e,h)) (fun e h=>some (.ret,e,h)) (fun i e h=>some (.exit i,e,h))
theorem roundK_eq (P:Program) (C:au) (b:Code) (e:aX) (h:ai):roundK P C b e h=codeA P C b e h:=by
 unfold roundK;rw [kh];cases codeA P C b e h with
 |none=>rfl
 |some y=>
  obtain ⟨ex,e',h'⟩:=y;cases ex<;>rfl
theorem cI.shut {μ:Mu} {h:ai} {w:World} (S:cI μ h w) {r:Nat} {x:Option (List Deferred)} (hr:w.heap[r]? = some (Obj.deferred x)) (o:Obj):cI μ h (w.putObj r o):=by
 have key : ∀ {B:Nat} {ob:Obj},w.heap[B]? = some ob->(∀ y,ob ≠ .deferred y)->(w.putObj r o).heap[B]? = some ob:=by intro B ob hB hne;rw [World.putObj_heap_other (by rintro rfl;rw [hr] at hB;cases hB;exact hne _ rfl)];exact hB
 refine ⟨?_,?_,?_,S.inj,by simpa using S.size,S.low⟩
 ·intro b cs hb hc;obtain ⟨L,a,T,f,h1,h2,h3,h4,h5⟩:=S.old b cs hb hc;exact ⟨L,a,T,f,h1,h2,h3,key h4 (by intro y hy;cases hy),h5⟩
 ·intro b k hb hg;obtain ⟨L,a,T,f,h1,h2,h4,h5⟩:=S.new b k hb hg;exact ⟨L,a,T,f,h1,h2,key h4 (by intro y hy;cases hy),h5⟩
 ·intro b ob hb hg;obtain ⟨L,ob',h1,h2,h3,h4⟩:=S.obj b ob hb hg;refine ⟨L,ob',h1,key h2 ?_,h3,h4⟩;rintro y rfl;cases ob<;>exact h3
theorem oj {P:Program} {nd:Nat} {fn:Func} {a:Act} {R:Ending->World->Prop} {μ μ0:Mu} {h h0:ai} {w0:World} :
  ∀ (rs:List Nat) {w:World},cI μ h w->cH μ0 h0 w0 μ h w->lz w0.heap.size μ h w rs ->
  (∀ w,cI μ h w->cH μ0 h0 w0 μ h w -> ∃ v,(results fn a.tmps).run P w = .ok v w/\R (.returned v) w) ->
  LeavesInM (Fr none) nd P fn a.tmps R (dF rs) .returning w
 | [],w,S,St,m,hR=>hR w S St
 |r::rs,w,S,St,m,hR=>by
  obtain ⟨h1,h2,h3⟩:=m.fB r (by simp);have hd:=List.nodup_cons.1 m.dup;refine ⟨by simp,.inl ⟨r,_,rfl,run_takeDeferred h2,?_⟩⟩;refine oj rs (S.shut h2 _) ?_ ⟨hd.2,?_⟩ hR
  ·refine ⟨St.ext,St.n0,St.old,St.next,St.os,St.tape,St.output,by simpa using St.size,?_,St.own,?_,St.drawn⟩
   ·intro B hB hO;rw [World.putObj_heap_other (by omega)];exact St.same B hB hO
   ·intro B q hB;obtain ⟨q',hq⟩:=St.loops B q hB;have:=(DT.1 hB).1;exact ⟨q',by rw [World.putObj_heap_other (by omega)];exact hq⟩
  ·intro q hq;obtain ⟨k1,k2,k3⟩:=m.fB q (by simp [hq]);refine ⟨k1,?_,k3⟩;rw [World.putObj_heap_other (by rintro rfl;exact hd.1 hq)];exact k2
theorem yR {P:Program} {C:au} (hC:bp P C) (hm:P.follows .mixedOrders=true) {f:FuncId} {fn:Func} {c:Code} (hf:P.funcs[f]? = some fn) (hb:fn.body=some c) (hok:codeOk P c=true)
  {args:List Value} {h h':ai} {v:Value} (he:bodyA P C fn args h=some (v,h')) (hg:P.globals.size<=h.n0) (hba:cW h.next args=true) (hbh:aJ h)
  {μ:Mu} {w:World} {args':List Value} (S:cI μ h w) (hfr:fK μ h h') (r:aR μ args args') :
  Calls P f args'.toArray w (nN μ h w v h'):=by
 unfold bodyA at he;rw [hb] at he;simp only at he;refine fr_calls (r:=none) (n:=0) (callsIn_of_wp_marks hf hb trivial ?_ rfl);have hbe:cW h.next (args++List.replicate (fn.ntmps-args.length) undef)=true:=
  cg hba (dY.2 fun x hx=>by rw [GP hx];rfl)
 have her:iu (dF []) μ (args++List.replicate (fn.ntmps-args.length) undef) { tmps:=args'.toArray++Array.replicate (fn.ntmps-args'.toArray.size) undef,defers := [] }:=by refine ⟨?_,rfl⟩;have h1:args.length=args'.length:=r.1;simp only [GG,Array.toList_replicate,FT];rw [h1];exact r.append (aR.replicate μ _ (aI.undef μ))
 cases hc:codeA P C c (args++List.replicate (fn.ntmps-args.length) undef) h with
 |none=>rw [hc] at he;cases he
 |some y=>
  obtain ⟨ex,e1,h1⟩:=y;rw [hc] at he;have hgrow:resultsA P fn.results.toList e1 h1=some (v,h'):=by
   cases ex with
   |normal=>exact he
   |ret=>exact he
   |exit i=>cases he
  obtain rfl:=jW hgrow;refine dv hC hm c hok none 0 w.heap.size [] _ _ _ _ _ _ _ _ _ hc hg hbe hbh S hfr her ⟨by simp,by simp⟩ (DD _) (fun l hl=>by cases hl) ?_;rintro a' w' ⟨μ',rs,hS,hSt,hr,hmk⟩;have fin:=oj (P:=P) (nd:=0) (fn:=fn) (a:=a') (R:=nN μ h w v h') rs hS hSt hmk (fun w2 S2 St2=>by obtain ⟨v',h3,h4⟩:=pJ (P:=P) (w:=w2) S2 hr hgrow;exact ⟨v',h3,μ',v',rfl,S2,St2,h4⟩)
  have hd:a'.defers=dF rs:=hr.2;cases ex with
  |normal=>simp only [Av,bodyPostM,hd];exact fin
  |ret=>simp only [Av,bodyPostM,hd];exact fin
  |exit i=>cases he
theorem sJ {μ:Mu} : ∀ {e e':List Value} (ps:List Tmp) {xs ys:List Value},aR μ e e'->aR μ xs ys->aR μ (fo e (ps.zip xs)) ((ps.zip ys).foldl (fun (t:List Value) (p:Tmp×Value)=>t.set p.1 p.2) e')
 |e,e',[],xs,ys,he,hx=>he
 |e,e',p::ps,[],[],he,hx=>he
 |e,e',p::ps,[],_::_,he,hx=>by have:=hx.1;simp at this
 |e,e',p::ps,_::_,[],he,hx=>by have:=hx.1;simp at this
 |e,e',p::ps,x::xs,y::ys,he,hx=>by simp only [List.zip_cons_cons,fo,List.foldl_cons];exact sJ ps (he.set p hx.head) hx.tail
theorem wy (ps:Array Tmp) (ys:List Value) (t:Array Value):((ps.zip ys.toArray).foldl (fun tmps (p:Tmp×Value)=>tmps.setIfInBounds p.1 p.2) t).toList=(ps.toList.zip ys).foldl (fun (t:List Value) (p:Tmp×Value)=>t.set p.1 p.2) t.toList:=by
 rw [<-Array.foldl_toList,Array.toList_zip];simp only;generalize ps.toList.zip ys=l;induction l generalizing t with
 |nil=>rfl
 |cons p l ih=>simp only [List.foldl_cons];rw [ih];simp
theorem rp {n:Nat} : ∀ {e:aX} (ps:List Tmp) {xs:List Value},cW n e=true->cW n xs=true->cW n (fo e (ps.zip xs))=true
 |e,[],xs,he,hx=>he
 |e,p::ps,[],he,hx=>he
 |e,p::ps,x::xs,he,hx=>by simp only [cW,DK] at hx;exact rp ps (bdL_set he hx.1) hx.2
theorem mw {P:Program} {C:au} {l:Nat} {args:List Value} {h h':ai} {v:Value} (he:roundA P C l args h=some (v,h')) :
  ∃ st p0 t0 q0 assign body e1 h1 p1 t1 q1 a1 b1 x e2 h2,h.getB l=some (.obj (.loop st p0 t0 q0 assign body))/\args.length=q0.length/\codeOk P assign=true/\codeOk P body=true /\
    codeA P C assign (fo t0 (q0.zip args)) h=some (.normal,e1,h1)/\h1.getB l=some (.obj (.loop .ready p1 t1 q1 a1 b1)) /\
    codeA P C body e1 (h1.setO l (.loop .busy p1 t1 q1 a1 b1))=some (x,e2,h2)/\ff l x h2=some (v,h'):=by
 unfold roundA at he;split at he
 ·rename_i st p0 t0 q0 assign body hg;split at he
  ·rename_i hc;split at he
   ·rename_i e1 h1 hca;split at he
    ·rename_i p1 t1 q1 a1 b1 hg1;split at he
     ·rename_i x e2 h2 hcb;exact ⟨st,p0,t0,q0,assign,body,e1,h1,p1,t1,q1,a1,b1,x,e2,h2,hg,hc.1,hc.2.1,hc.2.2,hca,hg1,hcb,he⟩
     ·cases he
    ·cases he
   ·cases he
  ·cases he
 ·cases he
theorem jq {l:Nat} {x:Ex} {h h':ai} {v:Value} (he:ff l x h=some (v,h')) :
  ∃ st p t q a b,h.getB l=some (.obj (.loop st p t q a b))/\v = .bool (x == .normal)/\h'=h.setO l (.loop (if x = .normal then .ready else .done) (if x = .normal then none else some x) t q a b):=by
 unfold ff at he;split at he
 ·rename_i st p t q a b hg;cases he;exact ⟨st,p,t,q,a,b,hg,rfl,rfl⟩
 ·cases he
theorem wS {P:Program} {C:au} (hC:bp P C) {l:Nat} {args:List Value} {h h':ai} {v:Value} (he:roundA P C l args h=some (v,h')):bD h h':=by obtain ⟨st,p0,t0,q0,assign,body,e1,h1,p1,t1,q1,a1,b1,x,e2,h2,hg,hlen,ho1,ho2,hca,hg1,hcb,hend⟩:=mw he;obtain ⟨_,_,_,_,_,_,_,_,rfl⟩:=jq hend;exact (((cA hC _ hca).trans (bD.setO _ _ _)).trans (cA hC _ hcb)).trans (bD.setO _ _ _)
theorem BL {P:Program} {C:au} (hC:bp P C) {l:Nat} {args:List Value} {h h':ai} {v:Value} (he:roundA P C l args h=some (v,h')) (hgl:P.globals.size<=h.n0) (hba:cW h.next args=true) (hbh:aJ h) :
  cz h'.next v=true/\aJ h':=by
 obtain ⟨st,p0,t0,q0,assign,body,e1,h1,p1,t1,q1,a1,b1,x,e2,h2,hg,hlen,ho1,ho2,hca,hg1,hcb,hend⟩:=mw he;obtain ⟨_,_,_,_,_,_,hg2,rfl,rfl⟩:=jq hend;have hg1':=cA hC _ hca;obtain ⟨k1,k2⟩:=dV hC _ ho1 hgl (rp q0 (hbh.obj _ _ hg) hba) hbh hca;have hob1:=k2.obj _ _ hg1;obtain ⟨k3,k4⟩:=dV hC _ ho2 (h:=h1.setO l (.loop .busy p1 t1 q1 a1 b1)) (by rw [ai.Cp,hg1'.2.1];exact hgl) (by simpa using k1) (k2.setO (h1.bE hg1) hg1 hob1) hcb;have hob2:=k4.obj _ _ hg2;exact ⟨rfl,k4.setO (h2.bE hg2) hg2 hob2⟩
theorem wo {P:Program} {C:au} (hC:bp P C) (hm:P.follows .mixedOrders=true) {l:Nat} {args:List Value} {h h':ai} {v:Value} (he:roundA P C l args h=some (v,h')) (hgl:P.globals.size<=h.n0)
  (hba:cW h.next args=true) (hbh:aJ h) {μ:Mu} {w:World} {args':List Value} {L:xj} (S:cI μ h w) (hfr:fK μ h h') (r:aR μ args args') (hL:μ l=some L) :
  ∃ fn tmps assign body,(Instr.yield L.blk args'.toArray).run P w = .ok (.round L.blk fn tmps assign body) w /\ ∀ n,RoundIn (Fr none) n P L.blk fn tmps assign body w (nN μ h w v h'):=by
 obtain ⟨st,p0,t0,q0,assign,body,e1,h1,p1,t1,q1,a1,b1,x,e2,h2,hg,hlen,ho1,ho2,hca,hg1,hcb,hend⟩:=mw he;obtain ⟨s3,p3,t3,q3,a3,b3,hg3,rfl,rfl⟩:=jq hend;have gr1:=cA hC _ hca;have gr2:=cA hC _ hcb;have gr2n:h1.next<=h2.next:=by have:=gr2.1;simpa using this
 obtain ⟨L0,ob,g1,g2,g3,g4,g5⟩:=S.obj l _ (h.bE hg) hg;rw [hL] at g1;cases g1;cases ob with
 |loop R=>
  obtain ⟨k1,k2,k3,k4,k5,k6⟩:=g3;have hsz:args'.toArray.size=R.params.size:=by have h5:=r.1;have h6:R.params.toList.length=R.params.size:=Array.length_toList;rw [k4] at h6;simp only [FT];omega
  refine ⟨R.fn,_,R.assign,R.body,run_yield g2 hsz,fun n => ?_⟩;rw [k5,k6];have hbe:=rp q0 (hbh.obj _ _ hg) hba;obtain ⟨bd1,bd2⟩:=dV hC _ ho1 hgl hbe hbh hca;have hob1:=bd2.obj _ _ hg1;have hfr' : ∀ b,h.next<=b->b<h2.next->μ b=none:=fun b h5 h6=>hfr b h5 h6;refine roundIn_of_wpIn (F:=Fr none) trivial ?_;refine dv hC hm assign ho1 (some L.blk) n w.heap.size [] _ _ _ _ _ _ _ _ _ hca hgl hbe hbh S (fun b h5 h6=>hfr' b h5 (by omega)) ?_ ⟨by simp,by simp⟩ (DD _) (fun l' hl'=>by cases hl';exact ⟨R,g2⟩) ?_
  ·refine ⟨?_,rfl⟩;have hfe:=wy R.params args' R.tmps;have hp:=sJ q0 k3 r;rw [<-k4] at hp |-;rw [<-hfe] at hp;exact hp
  ·rintro a' w1 ⟨μ1,rs1,S1,St1,er1,mk1⟩;have hμ1:μ1 l=some L:=St1.mono (fun b h5 h6=>hfr' b h5 (by omega)) _ _ hL;obtain ⟨L1,ob1,j1,j2,j3,j4,j5⟩:=S1.obj l _ (h1.bE hg1) hg1;rw [hμ1] at j1;cases j1;cases ob1 with
   |loop R1=>
    obtain ⟨m1,m2,m3,m4,m5,m6⟩:=j3;refine ⟨_,run_beginRound j2 m1,?_⟩;obtain ⟨S2,St2⟩:=S1.setO (o' := .loop .busy p1 t1 q1 a1 b1) (ob' := .loop { R1 with state := .busy }) hg1 hμ1 ⟨rfl,m2,m3,m4,m5,m6⟩;refine dv hC hm body ho2 (some L.blk) n w.heap.size rs1 _ _ _ _ _ _ _ _ _ hcb (by rw [ai.Cp,gr1.2.1];exact hgl) (by simpa using bd1) (bd2.setO (h1.bE hg1) hg1 hob1) S2 ?_ er1 (mk1.step St2) ?_ ?_ ?_
    ·intro b h5 h6;rw [St1.ext b (.inr (by simpa using h5))];have:=gr1.1;exact hfr' b (by simp at h5;omega) h6
    ·have:=St1.size;simpa using this
    ·intro l' hl';cases hl';exact ⟨_,World.putObj_heap_same (DT.1 j2).1⟩
    ·rintro a'' w3 ⟨μ3,rs3,S3,St3,er3,mk3⟩;have StA:=(St1.trans St2).trans St3;have hμ3:μ3 l=some L:=StA.mono (fun b h5 h6=>hfr' b h5 h6) _ _ hL;obtain ⟨L3,ob3,n1,n2,n3,n4,n5⟩:=S3.obj l _ (h2.bE hg3) hg3;rw [hμ3] at n1;cases n1;cases ob3 with
     |loop R3=>
      obtain ⟨o1,o2,o3,o4,o5,o6⟩:=n3;have fin : ∀ (j:Option Code),j=(if x = .normal then none else some (Cj x)) -> ∃ v w',(Instr.endRound L.blk j).run P w3 = .ok v w'/\nN μ h w (.bool (x == .normal)) (h2.setO l (.loop (if x = .normal then .ready else .done) (if x = .normal then none else some x) t3 q3 a3 b3)) (.returned v) w':=by
       intro j hj;refine ⟨_,_,run_endRound j n2,?_⟩;obtain ⟨S4,St4⟩:=S3.setO (o' := .loop (if x = .normal then .ready else .done) (if x = .normal then none else some x) t3 q3 a3 b3)
        (ob' := .loop { R3 with state:=if j.isNone then .ready else .done,pending:=j }) hg3 hμ3 (by
         refine ⟨?_,?_,o3,o4,o5,o6⟩
         ·subst hj;by_cases hx:x = .normal<;>simp [hx]
         ·subst hj;by_cases hx:x = .normal<;>simp [hx])
       refine ⟨μ3,_,rfl,S4,StA.trans St4,?_⟩;have:j.isNone=(x == .normal):=by subst hj;by_cases hx:x = .normal<;>simp [hx]
       rw [this];exact .flat rfl
      cases x with
      |normal=>exact fin none rfl
      |ret=>exact fin (some .ret) rfl
      |exit i=>exact fin (some (.exit i)) rfl
     |_=>exact n3.elim
   |_=>exact j3.elim
 |_=>exact g3.elim
def renF (r:Nat->Nat):Fn->Fn
 | .yield l => .yield (r l)
 |f=>f
mutual
def eZ (r:Nat->Nat):Value->Value
 | .pointer (some a) => .pointer (some ⟨r a.block,a.off,a.spot⟩)
 | .slice (some a) l c => .slice (some ⟨r a.block,a.off,a.spot⟩) l c
 | .agg ⟨l⟩ => .agg ⟨oC r l⟩
 | .tuple ⟨l⟩ => .tuple ⟨oC r l⟩
 | .map (some b) => .map (some (r b))
 | .func f ⟨a⟩ ⟨b⟩ => .func (renF r f) ⟨oC r a⟩ ⟨oC r b⟩
 | .iface t v => .iface t (eZ r v)
 |v=>v
def oC (r:Nat->Nat):List Value->List Value
 | [] => []
 |x::l=>eZ r x::oC r l
end
theorem zE (r:Nat->Nat) : ∀ l,oC r l=l.map (eZ r)
 | []=>rfl
 |x::l=>by simp [oC,zE r l]
theorem flat_ren (r:Nat->Nat) (v:Value) (h:flat (eZ r v)=true):flat v=true/\eZ r v=v:=by
 cases v with
 |pointer p=>cases p with
  |none=>exact ⟨rfl,rfl⟩
  |some a=>simp [eZ,flat] at h
 |slice p l c=>cases p with
  |none=>exact ⟨rfl,rfl⟩
  |some a=>simp [eZ,flat] at h
 |agg a=>obtain ⟨l⟩:=a;simp [eZ,flat] at h
 |tuple a=>obtain ⟨l⟩:=a;simp [eZ,flat] at h
 |func f a b=>
  obtain ⟨a⟩:=a;obtain ⟨b⟩:=b;cases f with
  |func i=>
   simp only [eZ,renF,flat,DK,List.isEmpty_toArray,List.isEmpty_iff,zE,HS] at h;obtain ⟨rfl,rfl⟩:=h;exact ⟨rfl,rfl⟩
  |_=>simp [eZ,renF,flat] at h
 |map m=>cases m with
  |none=>exact ⟨rfl,rfl⟩
  |some b=>simp [eZ,flat] at h
 |iface t v=>simp [eZ,flat] at h
 |_=>exact ⟨h,rfl⟩
mutual
theorem aI.sY {μ:Mu} {r:Nat->Nat} : ∀ (v:Value) {v':Value},aI μ (eZ r v) v'->aI (fun b=>μ (r b)) v v'
 | .pointer none,v',h=>by have:=h.bM rfl;subst this;exact .flat rfl
 | .pointer (some ⟨b,o,s⟩),v',h=>by
   simp only [eZ] at h;cases h with
   |flat h=>simp [flat] at h
   |ptr h=>exact .ptr h
 | .slice none l c,v',h=>by have:=h.bM rfl;subst this;exact .flat rfl
 | .slice (some ⟨b,o,s⟩) l c,v',h=>by
   simp only [eZ] at h;cases h with
   |flat h=>simp [flat] at h
   |slice h=>exact .slice h
   |vx h a b c d e=>exact .vx h a b c d e
   |jD h=>exact .jD h
   |zu=>exact .zu
 | .agg ⟨l⟩,v',h=>by simp only [eZ] at h;obtain ⟨ys,rfl,hl⟩:=h.xr;exact .gO (aR.oB l hl)
 | .tuple ⟨l⟩,v',h=>by simp only [eZ] at h;obtain ⟨ys,rfl,hl⟩:=h.Bp;exact .de (aR.oB l hl)
 | .func f ⟨a⟩ ⟨b⟩,v',h=>by
   by_cases hf:flat (eZ r (.func f ⟨a⟩ ⟨b⟩))=true
   ·obtain ⟨h1,h2⟩:=flat_ren r _ hf;have h3:=h.bM hf;rw [h2] at h3;subst h3;exact .flat h1
   ·simp only [eZ] at h hf;cases h with
    |flat h=>exact absurd h hf
    | @func _ g _ ys _ zs hfr h1 h2 h3 h4=>
      have q1:aR μ (oC r a) ys.toList:=⟨by simpa using h1,fun i x y hx hy=>h2 i x y (by simpa using hx) (by simpa using hy)⟩
      have q2:aR μ (oC r b) zs.toList:=⟨by simpa using h3,fun i x y hx hy=>h4 i x y (by simpa using hx) (by simpa using hy)⟩
      have p1:=aR.oB a q1;have p2:=aR.oB b q2;refine .func ?_ (by simpa using p1.1) (fun i x y hx hy=>p1.2 i x y (by simpa using hx) (by simpa using hy)) (by simpa using p2.1) (fun i x y hx hy=>p2.2 i x y (by simpa using hx) (by simpa using hy));cases f with
      |yield l=>exact hfr
      |_=>exact hfr
 | .iface t v,v',h=>by
   simp only [eZ] at h;cases h with
   |flat h=>simp [flat] at h
   |iface h=>exact .iface (aI.sY v h)
 | .bool _,v',h=>by have:=h.bM rfl;subst this;exact .flat rfl
 | .int _ _,v',h=>by have:=h.bM rfl;subst this;exact .flat rfl
 | .float _ _,v',h=>by have:=h.bM rfl;subst this;exact .flat rfl
 | .complex _ _ _,v',h=>by have:=h.bM rfl;subst this;exact .flat rfl
 | .string _,v',h=>by have:=h.bM rfl;subst this;exact .flat rfl
 | .map none,v',h=>by have:=h.bM rfl;subst this;exact .flat rfl
 | .map (some _),v',h=>by
   simp only [eZ] at h;cases h with
   |flat h=>simp [flat] at h
   |map h=>exact .map h
 | .chan none,v',h=>by have:=h.bM rfl;subst this;exact .flat rfl
 | .chan (some _),v',h=>by
   simp only [eZ] at h;cases h with
   |flat h=>simp [flat] at h
 | .nilFunc,v',h=>by have:=h.bM rfl;subst this;exact .flat rfl
 | .nilIface,v',h=>by have:=h.bM rfl;subst this;exact .flat rfl
theorem aR.oB {μ:Mu} {r:Nat->Nat} : ∀ (l:List Value) {l':List Value},aR μ (oC r l) l'->aR (fun b=>μ (r b)) l l'
 | [],l',h=>by have:=h.1;simp only [oC,List.length_nil] at this;obtain rfl:=FG this.symm;exact aR.nil _
 |x::l,l',h=>by
  simp only [oC] at h
  match l',h with
  | [],h=>have:=h.1;simp at this
  |y::l',h=>exact .cons (aI.sY x h.head) (aR.oB l h.tail)
end
mutual
theorem qI {r:Nat->Nat} {n:Nat} (hr : ∀ b,b<n->r b=b) : ∀ (v:Value),cz n v=true->eZ r v=v
 | .pointer none,_=>rfl
 | .pointer (some ⟨b,o,s⟩),h=>by simp only [cz,DS] at h;simp only [eZ,hr b h]
 | .slice none l c,_=>rfl
 | .slice (some ⟨b,o,s⟩) l c,h=>by simp only [cz,DS] at h;simp only [eZ,hr b h]
 | .agg ⟨l⟩,h=>by simp only [eZ];rw [mD hr l h]
 | .tuple ⟨l⟩,h=>by simp only [eZ];rw [mD hr l h]
 | .func f ⟨a⟩ ⟨b⟩,h=>by
   simp only [cz,DK] at h;simp only [eZ];rw [mD hr a h.2.1,mD hr b h.2.2];cases f with
   |yield l=>simp only [bdF,DS] at h;simp only [renF,hr l h.1]
   |_=>rfl
 | .iface t v,h=>by simp only [cz] at h;simp only [eZ];rw [qI hr v h]
 | .bool _,_=>rfl
 | .int _ _,_=>rfl
 | .float _ _,_=>rfl
 | .complex _ _ _,_=>rfl
 | .string _,_=>rfl
 | .map none,_=>rfl
 | .map (some b),h=>by simp only [cz,DS] at h;simp only [eZ,hr b h]
 | .chan _,_=>rfl
 | .nilFunc,_=>rfl
 | .nilIface,_=>rfl
theorem mD {r:Nat->Nat} {n:Nat} (hr : ∀ b,b<n->r b=b) : ∀ (l:List Value),cW n l=true->oC r l=l
 | [],_=>rfl
 |x::l,h=>by simp only [cW,DK] at h;simp only [oC];rw [qI hr x h.1,mD hr l h.2]
end
def renO (r:Nat->Nat):fN->fN
 | .map es c => .map (es.map fun x=>(eZ r x.1,eZ r x.2.1,x.2.2)) c
 | .iter m a b c => .iter (m.map r) a b c
 | .loop st p t q a b => .loop st p (oC r t) q a b
def renB (r:Nat->Nat):BB->BB
 | .cells k => .cells (oC r k)
 | .obj o => .obj (renO r o)
theorem renO_id {r:Nat->Nat} {n:Nat} (hr : ∀ b,b<n->r b=b) {o:fN} (h:uw n o=true):renO r o=o:=by
 cases o with
 |map es c=>
  simp only [uw,DR,DK] at h;simp only [renO]
  congr 1
  have:es.map (fun x=>(eZ r x.1,eZ r x.2.1,x.2.2))=es.map id:=List.map_congr_left fun x hx=>by have:=h x hx;rw [qI hr x.1 this.1,qI hr x.2.1 this.2];rfl
  rw [this,List.map_id]
 |iter m a b c=>
  cases m with
  |none=>rfl
  |some q=>simp only [uw,DS] at h;simp only [renO,Option.map_some,hr q h]
 |loop st p t q a b=>simp only [renO];rw [mD hr t h]
def bdB (n:Nat):BB->Bool
 | .cells k=>cW n k
 | .obj o=>uw n o
theorem renB_id {r:Nat->Nat} {n:Nat} (hr : ∀ b,b<n->r b=b) {x:BB} (h:bdB n x=true):renB r x=x:=by
 cases x with
 |cells k=>simp only [renB,mD hr k h]
 |obj o=>simp only [renB,renO_id hr h]
theorem aJ.bb {h:ai} (hb:aJ h) {b:Nat} {x:BB} (hg:h.getB b=some x):bdB h.next x=true:=by
 cases x with
 |cells k=>exact hb b k (h.get_of_getB hg)
 |obj o=>exact hb.obj b o hg
theorem qv.sY {μ:Mu} {r:Nat->Nat} {o:fN} {ob:Obj} (h:qv μ (renO r o) ob):qv (fun b=>μ (r b)) o ob:=by
 cases o with
 |map es c=>
  cases ob with
  |map es' c'=>
   obtain ⟨h1,h2,h3⟩:=h;refine ⟨h1,by simpa using h2,fun i x e hx he => ?_⟩;have:=h3 i (eZ r x.1,eZ r x.2.1,x.2.2) e (by simp [hx]) he;exact ⟨aI.sY _ this.1,aI.sY _ this.2.1,this.2.2⟩
  |_=>exact h.elim
 |iter m a b c=>
  cases ob with
  |mapIter m' a' b' c'=>
   obtain ⟨h1,h2⟩:=h;refine ⟨?_,h2⟩;cases m with
   |none=>cases m' with
    |none=>trivial
    |some B=>exact h1
   |some q=>cases m' with
    |none=>exact h1
    |some B=>exact h1
  |_=>exact h.elim
 |loop st p t q a b=>
  cases ob with
  |loop R=>
   obtain ⟨h1,h2,h3,h4⟩:=h;exact ⟨h1,h2,aR.oB _ h3,h4⟩
  |_=>exact h.elim
structure Gc (h:ai) (v:Value) (h':ai) (v1:Value) (h1:ai) (r:Nat->Nat):Prop where
 low : ∀ b,b<h.next->r b=b
 new : ∀ b,h.next<=b->b<h'.next->h.next<=r b
 inj : ∀ b b',h.next<=b->b<h'.next->h.next<=b'->b'<h'.next->r b=r b'->b=b'
 val:v1=eZ r v
 get : ∀ b k,h'.n0<=b->h'.getB b=some k->h1.getB (r b)=some (renB r k)
theorem Gc.getC {h:ai} {v:Value} {h':ai} {v1:Value} {h1:ai} {r:Nat->Nat} (G:Gc h v h' v1 h1 r) (b:Nat) (k:ju) (hb:h'.n0<=b) (hg:h'.get b=some k):h1.get (r b)=some (oC r k):=
 h1.get_of_getB (G.get b _ hb (h'.bg hg))
theorem gc_sound {μ μ1:Mu} {h h' h1:ai} {w w':World} {v v1 v':Value} {r:Nat->Nat} (G:Gc h v h' v1 h1 r) (gr:bD h h') (gr1:bD h h1) (hbh:aJ h) (hbh':aJ h') (hbv:cz h'.next v=true)
  (S1:cI μ1 h1 w') (St:cH (μ.cut h.next) h w μ1 h1 w') (hv:aI μ1 v1 v') :
  ∃ μ',cI μ' h' w'/\cH μ h w μ' h' w'/\aI μ' v v':=by
 have hle:=h.n0_le_next
 let μ':Mu:=fun b=>if b<h.next then μ b else if b<h'.next then μ1 (r b) else μ b
 have e1 : ∀ b,b<h.next->μ1 b=μ b:=fun b hb=>by rw [St.ext b (.inl hb)];simp [Mu.cut,hb]
 have e2 : ∀ b,b<h'.next->μ' b=μ1 (r b):=by
  intro b hb;by_cases hb1:b<h.next
  ·rw [G.low b hb1,e1 b hb1];simp [μ',hb1]
  ·simp [μ',hb1,hb]
 have up : ∀ b L,Mu.cut (fun b=>μ1 (r b)) h'.next b=some L->μ' b=some L:=by intro b L hb;obtain ⟨h2,h3⟩:=Mu.C8 hb;rw [e2 b h3];exact h2
 have relL : ∀ {k l:List Value},cW h'.next k=true->aR μ1 (oC r k) l->aR μ' k l:=fun hb hl=>((aR.oB _ hl).cut hb).mono up;have relV : ∀ {k l:Value},cz h'.next k=true->aI μ1 (eZ r k) l->aI μ' k l:=fun hb hl=>((aI.sY _ hl).cut hb).mono up;have n1:h1.n0=h'.n0:=gr1.2.1.trans gr.2.1.symm;have n2:h'.n0=h.n0:=gr.2.1;have rge : ∀ b,h'.n0<=b->b<h'.next->h'.n0<=r b:=by
  intro b hb hbn;by_cases hb1:b<h.next
  ·rw [G.low b hb1];exact hb
  ·have:=G.new b (by omega) hbn;omega
 have rinj : ∀ b b',b<h'.next->b'<h'.next->r b=r b'->b=b':=by
  intro b b' hb hb' he;by_cases c1:b<h.next
  ·by_cases c2:b'<h.next
   ·rw [G.low b c1,G.low b' c2] at he;exact he
   ·have:=G.new b' (by omega) hb';rw [G.low b c1] at he;omega
  ·by_cases c2:b'<h.next
   ·have:=G.new b (by omega) hb;rw [G.low b' c2] at he;omega
   ·exact G.inj b b' (by omega) hb (by omega) hb' he
 refine ⟨μ',⟨?_,?_,?_,?_,?_,?_⟩,?_,?_⟩
 ·intro b cs hb hc;have hbl:b<h.next:=by omega
  obtain ⟨L,arr,T,fr,h2,h3,h4,h5,h6⟩:=S1.old b cs (n1▸hb) (by rw [gr1.2.2,<-gr.2.2];exact hc);have hbd:cW h.next cs=true:=by refine hbh b cs ?_;unfold ai.get ai.getB;rw [DL (n2▸hb),<-gr.2.2,hc];rfl
  refine ⟨L,arr,T,fr,?_,h3,h4,h5,?_⟩
  ·rw [e2 b (by have:=gr.1;omega),G.low b hbl];exact h2
  ·exact ⟨h6.1,fun i x y hx hy hh=>relV (kI (bZ gr.1 hbd) hx) (by rw [qI G.low x (kI hbd hx)];exact h6.2 i x y hx hy hh)⟩
 ·intro b k hb hg;have hbn:=h'.aO hg;obtain ⟨L,arr,T,fr,h2,h3,h4,h5,h6,h7,h8,h9⟩:=S1.new (r b) _ (n1▸rge b hb hbn) (G.getC b k hb hg);refine ⟨L,arr,T,fr,by rw [e2 b hbn];exact h2,by rw [h3,zE];simp,h4,h5,h6,h7,n1▸h8,relL (hbh' b k hg) h9⟩
 ·intro b o hb hg;have hbn:=h'.lt_of_getB hg;obtain ⟨L,ob,h2,h3,h4,h5,h6⟩:=S1.obj (r b) _ (n1▸rge b hb hbn) (G.get b _ hb hg);exact ⟨L,ob,by rw [e2 b hbn];exact h2,h3,(h4.sY.cut (hbh'.obj b o hg)).mono up,n1▸h5,h6⟩
 ·intro b b' k k' L L' hb hb' hne hg hg' hL hL';have hbn:=h'.lt_of_getB hg;have hbn':=h'.lt_of_getB hg';rw [e2 b hbn] at hL;rw [e2 b' hbn'] at hL';exact S1.inj (r b) (r b') _ _ L L' (n1▸rge b hb hbn) (n1▸rge b' hb' hbn') (fun he=>hne (rinj b b' hbn hbn' he)) (G.get b k hb hg) (G.get b' k' hb' hg') hL hL'
 ·rw [<-n1];exact S1.size
 ·intro b hb;obtain ⟨L,h2,h3⟩:=S1.low b (n1▸hb);exact ⟨L,by rw [e2 b (by have:=gr.1;omega),G.low b (by omega)];exact h2,h3⟩
 ·have ownup : ∀ B,AN (μ.cut h.next) h B->AN μ h B:=by rintro B ⟨b,k,L,h2,h3,h4,h5⟩;exact ⟨b,k,L,h2,h3,(Mu.C8 h4).1,h5⟩
  have owndn : ∀ B,AN μ h B->AN (μ.cut h.next) h B:=by rintro B ⟨b,k,L,h2,h3,h4,h5⟩;exact ⟨b,k,L,h2,h3,Mu.eT h4 (h.lt_of_getB h3),h5⟩
  refine ⟨?_,gr.2.1,gr.2.2,gr.1,St.os,St.tape,St.output,St.size,fun B hB hO=>St.same B hB (fun h2=>hO (ownup B h2)),?_,St.loops,St.drawn⟩
  ·intro b hb;simp only [μ'];rcases hb with hb|hb
   ·rw [DL hb]
   ·rw [DM (by have:=gr.1;omega),DM (by omega)]
  ·rintro B ⟨b,k,L,h2,h3,h4,h5⟩;have hbn:=h'.lt_of_getB h3;rw [e2 b hbn] at h4;exact (St.own B ⟨r b,_,L,n1▸rge b h2 hbn,G.get b k h2 h3,h4,h5⟩).imp (ownup B) id
 ·exact relV hbv (G.val▸hv)
structure cQ (P:Program) (f:FuncId) (s:List Value->ai->bc):Prop where
 fn:f<P.funcs.size
 grow : ∀ args h v h',s args h=some (v,h')->bD h h'
 bd : ∀ args h v h',s args h=some (v,h')->cW h.next args=true->aJ h->cz h'.next v=true/\aJ h'
 run : ∀ args h v h',s args h=some (v,h')->cW h.next args=true->aJ h->P.globals.size<=h.n0 -> ∀ μ w args',cI μ h w->fK μ h h'->aR μ args args' ->
  CG P f args'.toArray w (nN μ h w v h')
def callL:List (FuncId×(List Value->ai->bc))->au
 | [],_,_,_=>none
 | (g,s)::t,f,args,h=>if f=g then s args h else callL t f args h
theorem qX {l:List (FuncId×(List Value->ai->bc))} {f:FuncId} {args:List Value} {h:ai} {r:Value×ai} (he:callL l f args h=some r) : ∃ p∈l,p.1=f/\p.2 args h=some r:=by
 induction l with
 |nil=>cases he
 |cons p t ih=>
  obtain ⟨g,s⟩:=p;simp only [callL] at he;split at he
  ·rename_i e;exact ⟨(g,s),by simp,e.symm,he⟩
  ·obtain ⟨q,h1,h2⟩:=ih he;exact ⟨q,by simp [h1],h2⟩
theorem mG {P:Program} (l:List (FuncId×(List Value->ai->bc))) (hl : ∀ p∈l,cQ P p.1 p.2):bp P (callL l):=by
 refine ⟨?_,?_,?_,?_⟩
 ·intro f args h v h' he;obtain ⟨p,hp,rfl,he'⟩:=qX he;exact (hl p hp).grow args h v h' he'
 ·intro f args h v h' he;obtain ⟨p,hp,rfl,he'⟩:=qX he;exact (hl p hp).bd args h v h' he'
 ·intro f args h v h' he _;obtain ⟨p,hp,rfl,he'⟩:=qX he;exact (hl p hp).run args h v h' he'
 ·intro l' args h v h' he;obtain ⟨p,hp,hf,he⟩:=qX he;have h1:=(hl p hp).fn;rw [hf] at h1;exact absurd h1 (IK.2 (H9 _ _))
theorem Gc.none {h h1:ai} {v:Value} (hb:cz h.next v=true) (hbh:aJ h) (hk : ∀ b k,h.n0<=b->h.getB b=some k->h1.getB b=some k):Gc h v h v h1 id where
 low _ _:=rfl
 new _ h1 h2:=by omega
 inj _ _ h1 h2:=by omega
 val:=(qI (n:=h.next) (fun _ _=>rfl) v hb).symm
 get b k h1 h2:=by rw [renB_id (r:=id) (n:=h.next) (fun _ _=>rfl) (hbh.bb h2)];exact hk b k h1 h2
def AY (n B:Nat):Nat->Nat:=fun b=>if b=n then B else b
def pu (v:Option Value) (h:ai):bc:=v.map fun v=>(v,h)
def oz:List Nat->Code->Code
 | [],c=>c
 | 0::p,.seq a _=>oz p a
 |_::p,.seq _ b=>oz p b
 | 0::p,.cond _ a _=>oz p a
 |_::p,.cond _ _ b=>oz p b
 |_::p,.block _ b=>oz p b
 |_::p,.loop b=>oz p b
 |_::p,.scope b=>oz p b
 |_::_,c=>c
def ao (fn:Func) (p:List Nat):Code:=
 match fn.body with
 |some c=>oz p c
 |none => .skip
def cn:Value->Option Bool
 | .bool b=>some b
 |_=>none
def eH (cells:List Value) (h:ai):bc:=some (newRow cells h)
def fZ (z:List Value) (ps:List (Nat×Nat×Value)):Option Value:=(fillL z ps).map fun cs => .agg cs.toArray
def dg (n:Nat) (z:Value) (len:Nat) (parts:List (Nat×Value)) (h:ai):bc:=
 if bI z.cells.toList&&z.cells.size=n&&0<n&&len*n<=16777216&&aM (parts.flatMap fun x=>x.2.cells.toList) then
  match fillL (dj z.cells.toList len) (parts.map fun x=>(x.1*n,n,x.2)) with
  |some cs=>some (.slice (some ⟨h.next,0,none⟩) len len,h.alloc cs)
  |none=>none
 else none
def lW (k:IntKind) (x:Value) (h:ai):bc:=
 match x with
 | .int _ n=>some (.int k (k.wrap n),h)
 |_=>none
def mkR (n jt:Nat) (z:Value) (len cap:Value) (h:ai):bc:=
 match len,cap with
 | .int .i64 l,.int .i64 c=>
   if 0<=l&&l<=c&&c<=9223372036854775807&&jt*c<=281474976710656&&bI z.cells.toList&&z.cells.size=n&&0<n then
    some (.slice (some ⟨h.next,0,none⟩) l.toNat c.toNat,h.alloc (dj z.cells.toList c.toNat))
   else none
 |_,_=>none
def nT (size:Nat) (x:Value) (lo hi mx:Option Value):Option Value:=
 match x with
 | .string _=>none
 |x=>sliceSl size x lo hi mx
def ixA1 (n z:Nat) (x i:Value):Option Value:=
 match x,i with
 | .agg cs,.int _ i=>if 0<=i/\i<n then cs[i.toNat*z]? else none
 |_,_=>none
def lenS (x:Value):Option Value:=
 match x with
 | .string s=>some (.int .i64 s.size)
 |_=>none
def lenL (x:Value):Option Value:=
 match x with
 | .slice _ n _=>some (.int .i64 n)
 |_=>none
def clrR (z:Value) (size:Nat) (d:Value) (h:ai):bc:=
 match d with
 | .slice none _ _=>some (undef,h)
 | .slice (some ⟨b,off,_⟩) n _=>
   if n=0 then some (undef,h) else
   if bI z.cells.toList&&z.cells.size=size&&0<size then (stL b off (dj z.cells.toList n) h).map fun h'=>(undef,h') else none
 |_=>none
def fe {α:Type} (y:Option (Ex×aX×ai)) (r:aX->ai->Option α) (x:Nat->aX->ai->Option α):Option α:=
 match y with
 |some (.ret,e',h')=>r e' h'
 |some (.exit i,e',h')=>x i e' h'
 |_=>none
section
abbrev AL:=List (Nat×Value)
noncomputable def lkB (e0:aX) (l:AL) (t:Nat):Value:=
 List.rec (motive:=fun _=>Value) (e0.getD t undef) (fun p _ ih=>Bool.rec (motive:=fun _=>Value) ih p.2 (Nat.beq p.1 t)) l
def rK (n:Nat) (l:AL) (d:Option Tmp) (v:Value):AL:=
 match d with
 |some t=>match Nat.blt t n with
  |true=>(t,v)::l
  |false=>l
 |none=>l
noncomputable def iI (n:Nat) (e0:aX) (l:AL):aX:=(List.range n).map (lkB e0 l)
theorem lkB_nil (e0:aX) (t:Nat):lkB e0 [] t=e0.getD t undef:=rfl
theorem lkB_cons (e0:aX) (p:Nat×Value) (l:AL) (t:Nat):lkB e0 (p::l) t=if p.1=t then p.2 else lkB e0 l t:=by
 show Bool.rec (motive:=fun _=>Value) (lkB e0 l t) p.2 (Nat.beq p.1 t)=_;cases hb:Nat.beq p.1 t with
 |true=>rw [DL (GQ hb)]
 |false=>rw [DM (HQ hb)]
theorem fS (n:Nat) (e0:aX) (l:AL) (t:Nat):(iI n e0 l)[t]? = if t<n then some (lkB e0 l t) else none:=by
 unfold iI;rw [EN];by_cases h:t<n
 ·rw [DL h,GJ h];rfl
 ·rw [DM h,ET (by simpa using h)];rfl
theorem expB_nil (e0:aX):iI e0.length e0 []=e0:=by
 apply FU;intro i;rw [fS];by_cases h:i<e0.length
 ·rw [DL h,lkB_nil,DJ,DB h];rfl
 ·rw [DM h,ET (by omega)]
theorem tX (n:Nat) (e0:aX) (l:AL) (d:Option Tmp) (v:Value):iI n e0 (rK n l d v)=putD (iI n e0 l) d v:=by
 cases d with
 |none=>rfl
 |some t=>
  apply FU;intro i;unfold putD rK;simp only;rw [HG,fS];have hlen:(iI n e0 l).length=n:=by simp [iI]
  rw [hlen];cases hb:Nat.blt t n with
  |true=>
   have ht:t<n:=by simpa using hb
   simp only [fS,lkB_cons,ht,EA];by_cases e:t=i
   ·subst e;simp [ht]
   ·simp [e]
  |false=>
   have ht : ¬t<n:=by intro h;rw [show Nat.blt t n=true by simpa using h] at hb;cases hb
   simp only [fS,ht,EF];by_cases e:t=i
   ·subst e;simp [ht]
   ·simp [e]
noncomputable def evB (n:Nat) (e0:aX) (l:AL):Operand->Value
 | .tmp t=>match Nat.blt t n with
   |true=>lkB e0 l t
   |false=>undef
 | .const v=>v
 | .global g=>ptr g 0
 | .func f => .func (.func f) #[] #[]
theorem Cq (n:Nat) (e0:aX) (l:AL):ev (iI n e0 l)=evB n e0 l:=by
 funext x
 cases x with
 |tmp t=>
  simp only [ev,evB,DJ,fS];cases hb:Nat.blt t n with
  |true=>have ht:t<n:=by simpa using hb
         simp [ht]
  |false=>
   have ht : ¬t<n:=by intro h;rw [show Nat.blt t n=true by simpa using h] at hb;cases hb
   simp [ht]
 |_=>rfl
noncomputable def oJ (n:Nat) (e0:aX) (ops:Array Oper) (l:AL) (j:Nat):Option Bool:=
 match (ops[j]?).bind (·.dst) with
 |some t=>match Nat.blt t n with
  |true=>cn (lkB e0 l t)
  |false=>none
 |none=>none
theorem Bj (n:Nat) (e0:aX) (ops:Array Oper) (l:AL) (j:Nat):iM ops (iI n e0 l) j=oJ n e0 ops l j:=by
 unfold iM oJ;cases (ops[j]?).bind (·.dst) with
 |none=>rfl
 |some t=>
  simp only [Option.bind_some,fS];cases hb:Nat.blt t n with
  |true=>
   have ht:t<n:=by simpa using hb
   simp only [ht,EA];cases lkB e0 l t<;>rfl
  |false=>
   have ht : ¬t<n:=by intro h;rw [show Nat.blt t n=true by simpa using h] at hb;cases hb
   simp [ht]
section
variable {α:Type} (P:Program) (C:au) (n:Nat) (e0:aX)
noncomputable def opsB (ops:Array Oper) (os:List Oper):AL->ai->(AL->ai->Option α)->Option α:=
 List.rec (motive:=fun _=>AL->ai->(AL->ai->Option α)->Option α) (fun l h k=>k l h)
  (fun o _ ih l h k=>
   match o.guard with
   |none=>af (opA P C o (evB n e0 l) h) fun v h'=>ih (rK n l o.dst v) h' k
   |some (j,want)=>af (ay (oJ n e0 ops l j==some want) (opA P C o (evB n e0 l) h) h) fun v h'=>ih (rK n l o.dst v) h' k) os
theorem Cb (ops:Array Oper) : ∀ (os:List Oper) (l:AL) (h:ai) (k:AL->ai->Option α) (kk:aX->ai->Option α),(∀ l h,k l h=kk (iI n e0 l) h) ->
  opsB P C n e0 ops os l h k=opsK P C ops os (iI n e0 l) h kk
 | [],l,h,k,kk,hk=>hk l h
 |o::cU,l,h,k,kk,hk=>by
  have ih : ∀ l h,List.rec (motive:=fun _=>AL->ai->(AL->ai->Option α)->Option α) (fun l h k=>k l h)
    (fun o _ ih l h k=>
     match o.guard with
     |none=>af (opA P C o (evB n e0 l) h) fun v h'=>ih (rK n l o.dst v) h' k
     |some (j,want)=>af (ay (oJ n e0 ops l j==some want) (opA P C o (evB n e0 l) h) h) fun v h'=>ih (rK n l o.dst v) h' k) cU l h k=opsK P C ops cU (iI n e0 l) h kk:=fun l h=>Cb ops cU l h k kk hk
  unfold opsB opsK;simp only [Cq,Bj];cases hg:o.guard with
  |none=>
   simp only
   congr 1
   funext v h'
   rw [ih,tX]
  |some g=>
   obtain ⟨j,want⟩:=g;simp only
   congr 1
   funext v h'
   rw [ih,tX]
structure Tb where
 l:AL
 h:ai
 v:Value
 tg:Bool
noncomputable def chkB (os:List (Nat×Oper)) (tr:List Tb) (hs:List ai) (x:Nat×Nat):Bool:=
 match os[x.1]?,tr[x.1]?,qm (tr.map (·.tg)) hs (madeIn P os x) (if x.2<x.1 then x.2 else x.2+1) with
 |some y,some t,some h=>cq t.tg (opA P C y.2 (evB n e0 t.l) h) t.v
 |some _,some t,none => !t.tg
 |_,_,_=>false
noncomputable def dynB (ops:Array Oper) (os:List (Nat×Oper)) (tr:List Tb) (hEnd:ai):Bool:=
 (pI P ops os).foldr (fun x acc=>chkB P C n e0 os tr (tr.map (·.h) ++ [hEnd]) x&&acc) true
noncomputable def Tb.up (n:Nat) (e0:aX) (t:Tb):Tr1:=⟨iI n e0 t.l,t.h,t.v,t.tg⟩
theorem dynB_eq (ops:Array Oper) (os:List (Nat×Oper)) (tr:List Tb) (hEnd:ai):dynB P C n e0 ops os tr hEnd=vq P C ops os (tr.map (Tb.up n e0)) hEnd:=by
 unfold dynB vq
 congr 1
 funext x acc
 congr 1
 unfold chkB chkAt;have h1:(tr.map (Tb.up n e0)).map (·.h)=tr.map (·.h):=by simp [Function.comp_def, Tb.up]
 have h2:(tr.map (Tb.up n e0)).map (·.tg)=tr.map (·.tg):=by simp [Function.comp_def, Tb.up]
 rw [h1,h2,EN];cases os[x.1]? with
 |none=>rfl
 |some y=>
  cases tr[x.1]? with
  |none=>rfl
  |some t=>
   cases qm (tr.map (·.tg)) (List.map (fun x=>x.h) tr ++ [hEnd]) (madeIn P os x) (if x.2<x.1 then x.2 else x.2+1) with
   |none=>rfl
   |some h=>simp [Tb.up,Cq]
noncomputable def CK (ops:Array Oper) (os:List (Nat×Oper)):AL->ai->(List Tb->AL->ai->Option α)->Option α:=
 List.rec (motive:=fun _=>AL->ai->(List Tb->AL->ai->Option α)->Option α) (fun l h k=>k [] l h)
  (fun x _ ih l h k=>
   match x.2.guard with
   |none=>af (opA P C x.2 (evB n e0 l) h) fun v h'=>ih (rK n l x.2.dst v) h' fun tr=>k (⟨l,h,v,true⟩::tr)
   |some (j,want)=>af (ay (oJ n e0 ops l j==some want) (opA P C x.2 (evB n e0 l) h) h) fun v h'=>ih (rK n l x.2.dst v) h' fun tr=>k (⟨l,h,v,oJ n e0 ops l j==some want⟩::tr)) os
theorem uL (ops:Array Oper) : ∀ (os:List (Nat×Oper)) (l:AL) (h:ai) (k:List Tb->AL->ai->Option α) (kk:List Tr1->aX->ai->Option α),(∀ tr l h,k tr l h=kk (tr.map (Tb.up n e0)) (iI n e0 l) h) ->
  CK P C n e0 ops os l h k=traceK P C ops os (iI n e0 l) h kk
 | [],l,h,k,kk,hk=>hk [] l h
 |x::cU,l,h,k,kk,hk=>by
  show (match x.2.guard with
   |none=>af (opA P C x.2 (evB n e0 l) h) fun v h'=>CK P C n e0 ops cU (rK n l x.2.dst v) h' fun tr=>k (⟨l,h,v,true⟩::tr)
   |some (j,want)=>af (ay (oJ n e0 ops l j==some want) (opA P C x.2 (evB n e0 l) h) h) fun v h'=>CK P C n e0 ops cU (rK n l x.2.dst v) h' fun tr=>k (⟨l,h,v,oJ n e0 ops l j==some want⟩::tr))=_
  unfold traceK;simp only [Cq,Bj];cases hg:x.2.guard with
  |none=>
   simp only
   congr 1
   funext v h'
   rw [uL ops cU (rK n l x.2.dst v) h' _ (fun tr=>kk (⟨iI n e0 l,h,v,true⟩::tr)) (fun tr l h=>by rw [hk];rfl),tX]
  |some g=>
   obtain ⟨j,want⟩:=g;simp only
   congr 1
   funext v h'
   rw [uL ops cU (rK n l x.2.dst v) h' _ (fun tr=>kk (⟨iI n e0 l,h,v,oJ n e0 ops l j==some want⟩::tr)) (fun tr l h=>by rw [hk];rfl),tX]
noncomputable def CO (ops:Array Oper) (draw:Bool) (l:AL) (h:ai) (k:AL->ai->Option α):Option α:=
 match draw with
 |false=>opsB P C n e0 ops ops.toList l h k
 |true=>
  match qs P ops with
  |true=>opsB P C n e0 ops ((late P ops).map (·.2)) l h k
  |false=>match tc P ops (late P ops) with
   |true=>CK P C n e0 ops (late P ops) l h fun tr l' h'=>match dynB P C n e0 ops (late P ops) tr h' with
    |true=>k l' h'
    |false=>none
   |false=>none
theorem regionB_eq (ops:Array Oper) (draw:Bool) (l:AL) (h:ai) (k:AL->ai->Option α) (kk:aX->ai->Option α) (hk : ∀ l h,k l h=kk (iI n e0 l) h) :
  CO P C n e0 ops draw l h k=tL P C ops draw (iI n e0 l) h kk:=by
 unfold CO tL;cases draw with
 |false=>exact Cb P C n e0 ops _ l h k kk hk
 |true=>
  simp only;cases qs P ops with
  |true=>exact Cb P C n e0 ops _ l h k kk hk
  |false=>
   simp only;cases tc P ops (late P ops) with
   |false=>rfl
   |true=>
    refine uL P C n e0 ops _ l h _ _ ?_;intro tr l h;rw [dynB_eq];cases vq P C ops (late P ops) (tr.map (Tb.up n e0)) h with
    |true=>exact hk l h
    |false=>rfl
def endN (o:Option (Ex×aX×ai)) (n r:aX->ai->Option α) (x:Nat->aX->ai->Option α):Option α:=
 match o with
 |some (.normal,e',h')=>n e' h'
 |some (.ret,e',h')=>r e' h'
 |some (.exit i,e',h')=>x i e' h'
 |none=>none
noncomputable def yJ (c:Code):AL->ai->(AL->ai->Option α)->(aX->ai->Option α)->(AL->ai->Option α)->(aX->ai->Option α)->(Nat->AL->ai->Option α)->(Nat->aX->ai->Option α)->Option α:=
 Code.rec (motive:=fun _=>AL->ai->(AL->ai->Option α)->(aX->ai->Option α)->(AL->ai->Option α)->(aX->ai->Option α)->(Nat->AL->ai->Option α)->(Nat->aX->ai->Option α)->Option α)
  (fun l h k _ _ _ _ _=>k l h)
  (fun _ ops draw l h k _ _ _ _ _=>CO P C n e0 ops draw l h k)
  (fun _ b ia ib l h k kE r rE x xE=>ia l h (fun l' h'=>ib l' h' k kE r rE x xE) (fun e' h'=>codeK P C b e' h' kE rE xE) r rE x xE)
  (fun q _ _ ia ib l h k kE r rE x xE=>match evB n e0 l q with
   | .bool true=>ia l h k kE r rE x xE
   | .bool false=>ib l h k kE r rE x xE
   |_=>none)
  (fun id _ ib l h k kE r rE x xE=>ib l h k kE r rE (fun i l' h'=>if i=id then k l' h' else x i l' h') (fun i e' h'=>if i=id then kE e' h' else xE i e' h'))
  (fun b _ l h _ _ _ rE _ xE=>fe (iter (codeA P C b) aD (iI n e0 l) h) rE xE)
  (fun g ps a b _ _ l h _ kE _ rE _ xE=>endN (codeA P C (.rangeFunc g ps a b) (iI n e0 l) h) kE rE xE)
  (fun i l h _ _ _ _ x _=>x i l h)
  (fun _ ib l h k kE r rE x xE=>ib l h k kE r rE x xE)
  (fun _ l h k _ _ _ _ _=>k l h)
  (fun _ _ _ _ _ _ _ _ _=>none)
  (fun l h _ _ r _ _ _=>r l h)
  (fun _ _ _ _ _ _ _ _ _=>none) c
theorem lH : ∀ (c:Code) (l:AL) (h:ai) (k:AL->ai->Option α) (kE:aX->ai->Option α) (r:AL->ai->Option α) (rE:aX->ai->Option α) (x:Nat->AL->ai->Option α) (xE:Nat->aX->ai->Option α),
  (∀ l h,k l h=kE (iI n e0 l) h)->(∀ l h,r l h=rE (iI n e0 l) h)->(∀ i l h,x i l h=xE i (iI n e0 l) h) ->
  yJ P C n e0 c l h k kE r rE x xE=codeK P C c (iI n e0 l) h kE rE xE
 | .skip,l,h,k,kE,r,rE,x,xE,hk,hr,hx=>hk l h
 | .region _ ops d,l,h,k,kE,r,rE,x,xE,hk,hr,hx=>regionB_eq P C n e0 ops d l h k kE hk
 | .seq a b,l,h,k,kE,r,rE,x,xE,hk,hr,hx=>by show yJ P C n e0 a l h (fun l' h'=>yJ P C n e0 b l' h' k kE r rE x xE) (fun e' h'=>codeK P C b e' h' kE rE xE) r rE x xE=_;exact lH a l h _ _ r rE x xE (fun l h=>lH b l h k kE r rE x xE hk hr hx) hr hx
 | .cond q a b,l,h,k,kE,r,rE,x,xE,hk,hr,hx=>by
   show (match evB n e0 l q with
    | .bool true=>yJ P C n e0 a l h k kE r rE x xE
    | .bool false=>yJ P C n e0 b l h k kE r rE x xE
    |_=>none)=_
   unfold codeK;rw [Cq,lH a l h k kE r rE x xE hk hr hx,lH b l h k kE r rE x xE hk hr hx];try rfl
 | .block id b,l,h,k,kE,r,rE,x,xE,hk,hr,hx=>by show yJ P C n e0 b l h k kE r rE (fun i l' h'=>if i=id then k l' h' else x i l' h') (fun i e' h'=>if i=id then kE e' h' else xE i e' h')=_;exact lH b l h k kE r rE _ _ hk hr (fun i l h=>by simp only [hk,hx])
 | .loop b,l,h,k,kE,r,rE,x,xE,hk,hr,hx=>rfl
 | .exit i,l,h,k,kE,r,rE,x,xE,hk,hr,hx=>hx i l h
 | .scope b,l,h,k,kE,r,rE,x,xE,hk,hr,hx=>lH b l h k kE r rE x xE hk hr hx
 | .label _,l,h,k,kE,r,rE,x,xE,hk,hr,hx=>hk l h
 | .ret,l,h,k,kE,r,rE,x,xE,hk,hr,hx=>hr l h
 | .goto _,l,h,k,kE,r,rE,x,xE,hk,hr,hx=>rfl
 | .rangeFunc g ps a b,l,h,k,kE,r,rE,x,xE,hk,hr,hx=>rfl
 | .refuse _,l,h,k,kE,r,rE,x,xE,hk,hr,hx=>rfl
noncomputable def vn (c:Code) (h:ai) (kE rE:aX->ai->Option α) (xE:Nat->aX->ai->Option α):Option α:=
 yJ P C n e0 c [] h (fun l h=>kE (iI n e0 l) h) kE (fun l h=>rE (iI n e0 l) h) rE (fun i l h=>xE i (iI n e0 l) h) xE
theorem vt (hn:Nat.beq e0.length n=true) (c:Code) (h:ai) (kE rE:aX->ai->Option α) (xE:Nat->aX->ai->Option α) :
  codeK P C c e0 h kE rE xE=vn P C n e0 c h kE rE xE:=by
 unfold vn;rw [lH P C n e0 c [] h (fun l h=>kE (iI n e0 l) h) kE (fun l h=>rE (iI n e0 l) h) rE (fun i l h=>xE i (iI n e0 l) h) xE (fun _ _=>rfl) (fun _ _=>rfl) (fun _ _ _=>rfl)];obtain rfl:=GQ hn;rw [expB_nil]
end
noncomputable def bodyB (P:Program) (C:au) (fn:Func) (args:List Value) (h:ai):bc:=
 match fn.body with
 |none=>none
 |some c=>vn P C fn.ntmps (args++List.replicate (fn.ntmps-args.length) undef) c h (resultsA P fn.results.toList) (resultsA P fn.results.toList) (fun _ _ _=>none)
theorem bodyB_eq (P:Program) (C:au) (fn:Func) (args:List Value) (h:ai) (hn:Nat.ble args.length fn.ntmps=true):bw P C fn args h=bodyB P C fn args h:=by
 unfold bw bodyB;cases fn.body with
 |none=>rfl
 |some c=>
  refine vt P C _ _ ?_ c h _ _ _;have:=EY hn;have h2:(args++List.replicate (fn.ntmps-args.length) undef).length=fn.ntmps:=by simp;omega
  rw [h2];exact Nat.beq_refl _
noncomputable def roundB (P:Program) (C:au) (n:Nat) (b:Code) (e:aX) (h:ai):Option (Ex×aX×ai):=
 vn P C n e b h (fun e h=>some (.normal,e,h)) (fun e h=>some (.ret,e,h)) (fun i e h=>some (.exit i,e,h))
theorem roundB_eq (P:Program) (C:au) (n:Nat) (b:Code) (e:aX) (h:ai) (hn:Nat.beq e.length n=true):roundK P C b e h=roundB P C n b e h:=
 vt P C n e hn b h _ _ _
end
section
@[simp] theorem aj {α : Type} (v : Value) (h : ai) (k : Value -> ai -> Option α) : af (some (v, h)) k = k v h := rfl
@[simp] theorem thenV_none {α : Type} (k : Value -> ai -> Option α) : af none k = none := rfl
@[simp] theorem ak (v : Value) (h : ai) : pu (some v) h = some (v, h) := rfl
@[simp] theorem aC (o : bc) (h : ai) : ay true o h = o := rfl
@[simp] theorem aG (o : bc) (h : ai) : ay false o h = some (undef, h) := rfl
@[simp] theorem bB (b : Bool) : cn (.bool b) = some b := rfl
@[simp] theorem bOf_undef : cn undef = none := rfl
@[simp] theorem jd {α : Type} (e : aX) (h : ai) (r : aX -> ai -> Option α) (x : Nat -> aX -> ai -> Option α) : fe (some (.ret, e, h)) r x = r e h := rfl
@[simp] theorem bk {α : Type} (i : Nat) (e : aX) (h : ai) (r : aX -> ai -> Option α) (x : Nat -> aX -> ai -> Option α) : fe (some (.exit i, e, h)) r x = x i e h := rfl
@[simp] theorem bX (b o : Nat) : nilCheckA (ptr b o) = some (ptr b o) := rfl
@[simp] theorem aB (b o n : Nat) : aP (ptr b o) n = some (ptr b (o + n)) := rfl
@[simp] theorem lenL_slice (p : Option Addr) (n c : Nat) : lenL (.slice p n c) = some (.int .i64 n) := rfl
@[simp] theorem lenS_string (s : ByteArray) : lenS (.string s) = some (.int .i64 s.size) := rfl
@[simp] theorem aV (b : Bool) : unA .not (.bool b) = some (.bool !b) := rfl
@[simp] theorem extractA_tuple (vs : Array Value) (i : Nat) : extractA (.tuple vs) i = vs[i]? := rfl
@[simp] theorem eh (k j : IntKind) (n : Int) (h : ai) : lW k (.int j n) h = some (.int k (k.wrap n), h) := rfl
section
variable (P:Program) (t:TypeId) (k:IntKind) (a b:Int)
theorem dy (op:BinOp) (k':IntKind):aF P op t (.int k a) (.int k' b)=jw op k k' a b:=by cases op<;>rfl
@[simp] theorem my : aF P .add t (.int k a) (.int k b) = some (.int k (k.wrap (a + b))) := by rw [dy]; simp [jw]
@[simp] theorem fE : aF P .sub t (.int k a) (.int k b) = some (.int k (k.wrap (a - b))) := by rw [dy]; simp [jw]
@[simp] theorem jn : aF P .mul t (.int k a) (.int k b) = some (.int k (k.wrap (a * b))) := by rw [dy]; simp [jw]
theorem CF (hb:b≠0):aF P .quo t (.int k a) (.int k b)=some (.int k (k.wrap (a.tdiv b))):=by rw [dy];simp [jw,hb]
theorem ry (hb:b≠0):aF P .rem t (.int k a) (.int k b)=some (.int k (a.tmod b)):=by rw [dy];simp [jw,hb]
@[simp] theorem bF : aF P .eql t (.int k a) (.int k b) = some (.bool (a == b)) := by rw [dy]; simp [jw]
@[simp] theorem bz : aF P .neq t (.int k a) (.int k b) = some (.bool (a != b)) := by rw [dy]; simp [jw]
@[simp] theorem bL : aF P .lss t (.int k a) (.int k b) = some (.bool (decide (a < b))) := by rw [dy]; simp [jw]
@[simp] theorem bU : aF P .leq t (.int k a) (.int k b) = some (.bool (decide (a <= b))) := by rw [dy]; simp [jw]
@[simp] theorem bJ : aF P .gtr t (.int k a) (.int k b) = some (.bool (decide (a > b))) := by rw [dy]; simp [jw]
@[simp] theorem bG : aF P .geq t (.int k a) (.int k b) = some (.bool (decide (a >= b))) := by rw [dy]; simp [jw]
end
theorem aW {h:ai} {b o:Nat} {k:ju} {c:Value} (hg:h.get b=some k) (hc:k[o]? = some c) (hh:eK c=false:=by rfl):ld1 (ptr b o) h=some (c,h):=by unfold ld1 ptr;simp only [hg,hc,hh,EA]
theorem qF {h:ai} {b o n:Nat} {k:ju} (hg:h.get b=some k) (hc:o+n<=k.length) (hh:noHoles ((k.drop o).take n)=true):du n (ptr b o) h=some (.agg ((k.drop o).take n).toArray,h):=by unfold du ptr;simp only [hg,hc,hh,and_self,EA]
theorem iter_inv {step:aX->ai->Option (Ex×aX×ai)} {Inv:Nat->aX->ai->Prop} {fin:Ex->aX->ai->Prop}
  (hs : ∀ k e h,Inv k e h -> ∃ x e' h',step e h=some (x,e',h')/\((x = .normal /\ ∃ j,j<k/\Inv j e' h')\/(x ≠ .normal/\fin x e' h'))) :
  ∀ (k n:Nat) (e:aX) (h:ai),k<n->Inv k e h -> ∃ x e' h',iter step n e h=some (x,e',h')/\fin x e' h':=by
 intro k;induction k using Nat.strongRecOn with
 |_ k ih=>
  intro n e h hn hi;obtain ⟨m,rfl⟩ : ∃ m,n=m+1:=⟨n-1,by omega⟩
  obtain ⟨x,e',h',h1,h2|h2⟩:=hs k e h hi
  ·obtain ⟨rfl,j,hj,hi2⟩:=h2;obtain ⟨x,e2,h3,h4,h5⟩:=ih j hj m e' h' (by omega) hi2;exact ⟨x,e2,h3,by simp only [iter,h1];exact h4,h5⟩
  ·refine ⟨x,e',h',?_,h2.2⟩;simp only [iter,h1];cases x with
   |normal=>exact absurd rfl h2.1
   |ret=>rfl
   |exit i=>rfl
theorem wrap_i64_if (x:Int):IntKind.wrap .i64 x=if 9223372036854775808<=x%18446744073709551616 then x%18446744073709551616-18446744073709551616 else x%18446744073709551616:=by unfold IntKind.wrap;simp [IntKind.bits,IntKind.signed]
theorem wrap_i64 {x:Int} (h1 : -9223372036854775808<=x) (h2:x<=9223372036854775807):IntKind.wrap .i64 x=x:=by rw [wrap_i64_if];split<;>omega
theorem wrap_u64 {x:Int} (h1:0<=x) (h2:x<18446744073709551616):IntKind.wrap .u64 x=x:=by simp only [IntKind.wrap,IntKind.bits,IntKind.signed,EG,DG,EF];omega
theorem wrap_u32 {x:Int} (h1:0<=x) (h2:x<4294967296):IntKind.wrap .u32 x=x:=by simp only [IntKind.wrap,IntKind.bits,IntKind.signed,EG,DG,EF];omega
theorem wrap_u8 {x:Int} (h1:0<=x) (h2:x<256):IntKind.wrap .u8 x=x:=by simp only [IntKind.wrap,IntKind.bits,IntKind.signed,EG,DG,EF];omega
theorem gG (x:Int):IntKind.wrap .u8 x=x%256:=by simp only [IntKind.wrap,IntKind.bits,IntKind.signed,EG,DG,EF];omega
theorem uy (x:Int):IntKind.wrap .u32 x=x%4294967296:=by simp only [IntKind.wrap,IntKind.bits,IntKind.signed,EG,DG,EF];omega
end
structure cx (P:Program) (f:FuncId) (fn:Func):Prop where
 fB:P.funcs[f]? = some fn
 name : (fn.name == "runtime.NumGoroutine") = false
 some_:fn.body.isSome=true
 ok:codeOk P (ao fn [])=true
theorem cx.body {P:Program} {f:FuncId} {fn:Func} (i:cx P f fn):fn.body=some (ao fn []):=by
 have:=i.some_;unfold ao;cases h:fn.body with
 |none=>rw [h] at this;cases this
 |some c=>simp [oz]
noncomputable def lkF (x:Nat->Value) (l:AL) (t:Nat):Value:=
 List.rec (motive:=fun _=>Value) (x t) (fun p _ ih=>Bool.rec (motive:=fun _=>Value) ih p.2 (Nat.beq p.1 t)) l
noncomputable def mkE (n:Nat) (x:Nat->Value) (l:AL):aX:=(List.range n).map (lkF x l)
def bs (l:List Value):Nat->Value:=fun i=>l.getD i undef
@[simp] theorem lkF_nil (x : Nat -> Value) (t : Nat) : lkF x [] t = x t := rfl
theorem lkF_cons (x:Nat->Value) (p:Nat×Value) (l:AL) (t:Nat):lkF x (p::l) t=if p.1=t then p.2 else lkF x l t:=by
 show Bool.rec (motive:=fun _=>Value) (lkF x l t) p.2 (Nat.beq p.1 t)=_;cases hb:Nat.beq p.1 t with
 |true=>rw [DL (GQ hb)]
 |false=>rw [DM (HQ hb)]
@[simp] theorem mkE_length (n : Nat) (x : Nat -> Value) (l : AL) : (mkE n x l).length = n := by simp [mkE]
section
theorem ofInt_natCast (w n:Nat):BitVec.ofInt w (n:Int)=BitVec.ofNat w n:=by simp
section
variable (P:Program) (t:TypeId)
theorem bits_u {k:IntKind} (hk:k.signed=false) (n:Nat) (hn:n<2^k.bits):IntKind.wrap k (n:Int)=n:=by
 unfold IntKind.wrap;simp only [hk,EG,DG,EF];have:((2:Int)^k.bits)=((2^k.bits:Nat):Int):=by simp
 rw [this,<-Int.natCast_emod,GX hn]
theorem bin_xor_nat {k:IntKind} (hk:k.signed=false) {a b:Nat} (ha:a<2^k.bits) (hb:b<2^k.bits):aF P .xor t (.int k a) (.int k b)=some (.int k ((a ^^^ b:Nat):Int)):=by rw [dy];simp only [jw,ne_eq,not_true,EF,qu,ofInt_natCast,BitVec.toNat_xor,IF,GX ha,GX hb];rw [bits_u hk _ (Nat.xor_lt_two_pow ha hb)]
theorem bin_and_nat {k:IntKind} (hk:k.signed=false) {a b:Nat} (ha:a<2^k.bits) (hb:b<2^k.bits):aF P .and t (.int k a) (.int k b)=some (.int k ((a &&& b:Nat):Int)):=by rw [dy];simp only [jw,ne_eq,not_true,EF,qu,ofInt_natCast,BitVec.toNat_and,IF,GX ha,GX hb];rw [bits_u hk _ (Nat.and_lt_two_pow a hb)]
theorem bin_or_nat {k:IntKind} (hk:k.signed=false) {a b:Nat} (ha:a<2^k.bits) (hb:b<2^k.bits):aF P .or t (.int k a) (.int k b)=some (.int k ((a ||| b:Nat):Int)):=by rw [dy];simp only [jw,ne_eq,not_true,EF,qu,ofInt_natCast,BitVec.toNat_or,IF,GX ha,GX hb];rw [bits_u hk _ (Nat.or_lt_two_pow ha hb)]
theorem eQ {k k':IntKind} {a b:Nat} (hb:b<=k.bits):aF P .shr t (.int k a) (.int k' b)=some (.int k ((a/2^b:Nat):Int)):=by
 rw [dy];have h1 : ¬((b:Int)<0):=by omega
 simp only [jw,h1,EF,Int.toNat_natCast,HI hb];have:((2:Int)^b)=((2^b:Nat):Int):=by simp
 rw [this,Int.fdiv_eq_ediv_of_nonneg _ (Int.natCast_nonneg _)];rfl
end
end
structure az (h h':ai) (B:Nat->Prop):Prop where
 n0:h'.n0=h.n0
 next:h.next<=h'.next
 getB : ∀ c,c<h.next -> ¬B c->h'.getB c=h.getB c
theorem az.get {h h':ai} {B:Nat->Prop} (x:az h h' B) (c:Nat) (hc:c<h.next) (hB : ¬B c):h'.get c=h.get c:=by unfold ai.get;rw [x.getB c hc hB]
theorem az.obj {h h':ai} {B:Nat->Prop} (x:az h h' B) {c:Nat} {o:fN} (g:h.getB c=some (.obj o)) (hB : ¬B c):h'.getB c=some (.obj o):=(x.getB c (h.lt_of_getB g) hB).trans g
theorem az.refl (h:ai) (B:Nat->Prop):az h h B:=⟨rfl,DD _,fun _ _ _=>rfl⟩
theorem az.trans {a b c:ai} {B:Nat->Prop} (x:az a b B) (y:az b c B):az a c B:=
 ⟨y.n0.trans x.n0,D7 x.next y.next,fun d hd hb=>(y.getB d (EJ hd x.next) hb).trans (x.getB d hd hb)⟩
theorem az.mono {a b:ai} {B B':Nat->Prop} (x:az a b B) (hB : ∀ c,c<a.next->B c->B' c):az a b B':=
 ⟨x.n0,x.next,fun d hd hb=>x.getB d hd (fun h=>hb (hB d hd h))⟩
theorem az.alloc (h:ai) (k:ju) (B:Nat->Prop):az h (h.alloc k) B:=
 ⟨rfl,by simp,fun c hc _=>by rw [ai.cN,DM (by omega)]⟩
theorem az.set {h:ai} {b:Nat} {k k':ju} {B:Nat->Prop} (hb:h.n0<=b) (hg:h.get b=some k) (hB:h.next<=b\/B b):az h (h.set b k') B:=
 ⟨rfl,by simp,fun c hc hn=>by
  by_cases e:c=b
  ·subst e;rcases hB with h1|h1
   ·omega
   ·exact absurd h1 hn
  ·exact ai.jo hb (h.aO hg) _ e⟩
theorem splice_one (k:List Value) (o:Nat) (v:Value) (ho:o<k.length):splice k o [v]=k.set o v:=by unfold splice;rw [List.set_eq_take_append_cons_drop,DL ho];simp
theorem xx {h:ai} {b o:Nat} {k:ju} {v:Value} (hg:h.get b=some k) (ho:o<k.length) (hn:h.n0<=b) (hc:v.cells = #[v]) (hv:v.oneCell'=true) :
  eY 1 (ptr b o) v h=some (undef,h.set b (k.set o v)):=by
 unfold eY ptr;simp only [hc,FT,List.length_cons,List.length_nil,DH,EA];unfold stL;simp only [hg,List.length_cons,List.length_nil,DH];rw [DL (by simp [hn,aM,hv];omega),splice_one k o v ho];rfl
noncomputable def aK (n:Nat) (x:Nat->Value):aX:=(List.range n).map x
noncomputable def up (x:Nat->Value) (l:AL):Nat->Value:=lkF x l
@[simp] theorem up_nil (x : Nat -> Value) (t : Nat) : up x [] t = x t := rfl
theorem xi (x:Nat->Value) (s:Nat) (v:Value) (l:AL) (t:Nat):up x ((s,v)::l) t=if s=t then v else up x l t:=lkF_cons ..
theorem up_same (x:Nat->Value) (s:Nat) (v:Value) (l:AL):up x ((s,v)::l) s=v:=by rw [xi,DL rfl]
@[simp] theorem yS (n : Nat) (x : Nat -> Value) : (aK n x).length = n := by simp [aK]
theorem aA {P:Program} {C:au} {n:Nat} {b:Code} {T:(Nat->Value)->ai->Option (Ex×aX×ai)} (hT : ∀ x h,roundB P C n b (aK n x) h=T x h) (x:Nat->Value) (h:ai) :
  codeA P C b (aK n x) h=T x h:=by
 rw [<-roundK_eq,roundB_eq P C n b _ h (by rw [yS];exact Nat.beq_refl n),<-hT]
theorem lC {α:Type} {P:Program} {C:au} {n:Nat} {b:Code} {kE rE:aX->ai->Option α} {xE:Nat->aX->ai->Option α} {T:(Nat->Value)->ai->Option α}
  (hT : ∀ x h,vn P C n (aK n x) b h kE rE xE=T x h) (x:Nat->Value) (h:ai) :
  codeK P C b (aK n x) h kE rE xE=T x h:=by
 rw [vt P C n (aK n x) (by rw [yS];exact Nat.beq_refl n),<-hT]
theorem loop_inv {P:Program} {C:au} {n:Nat} {b:Code} {T:(Nat->Value)->ai->Option (Ex×aX×ai)} (hT : ∀ x h,codeA P C b (aK n x) h=T x h)
  {Inv:Nat->(Nat->Value)->ai->Prop} {fin:Ex->(Nat->Value)->ai->Prop}
  (hs : ∀ k x h,Inv k x h -> ∃ ex x' h',T x h=some (ex,aK n x',h')/\((ex = .normal /\ ∃ j,j<k/\Inv j x' h')\/(ex ≠ .normal/\fin ex x' h')))
  {k:Nat} {x:Nat->Value} {h:ai} (hk:k<aD) (hi:Inv k x h) :
  ∃ ex x' h',iter (codeA P C b) aD (aK n x) h=some (ex,aK n x',h')/\fin ex x' h':=by
 obtain ⟨ex,e',h',h1,x',rfl,h2⟩:=iter_inv (step:=codeA P C b) (Inv:=fun k e h => ∃ x,e=aK n x/\Inv k x h) (fin:=fun ex e h => ∃ x,e=aK n x/\fin ex x h)
  (by
   rintro k _ h ⟨x,rfl,hi⟩;obtain ⟨ex,x',h',h1,h2⟩:=hs k x h hi;refine ⟨ex,aK n x',h',(hT x h).trans h1,?_⟩;rcases h2 with ⟨h2,j,hj,h3⟩|⟨h2,h3⟩
   ·exact .inl ⟨h2,j,hj,x',rfl,h3⟩
   ·exact .inr ⟨h2,x',rfl,h3⟩)
  k aD (aK n x) h hk ⟨x,rfl,hi⟩
 exact ⟨ex,x',h',h1,h2⟩
section
def AV (μ:Mu) (h:ai):Prop := ∀ b,h.next<=b->μ b=none
theorem AV.free {μ:Mu} {h h':ai} (t:AV μ h):fK μ h h':=fun b h1 _=>t b h1
theorem AV.step {μ μ':Mu} {h h':ai} {w w':World} (t:AV μ h) (st:cH μ h w μ' h' w'):AV μ' h':=fun b hb=>by rw [st.ext b (.inr hb)];exact t b (D7 st.next hb)
abbrev lN:=FuncId->List Value->ai->(Value->ai->Prop)->Prop
def wD (C:au):lN:=fun f args h K => ∃ v h',C f args h=some (v,h')/\K v h'
def nK (μ:Mu) (h:ai) (w:World) (K:Value->ai->Prop) (e:Ending) (w':World):Prop:=
 ∃ v h',K v h'/\bD h h'/\cz h'.next v=true/\aJ h'/\nN μ h w v h' e w'
structure mW (P:Program) (W:lN):Prop where
 run : ∀ f args h K,W f args h K->f<P.funcs.size->cW h.next args=true->aJ h->P.globals.size<=h.n0 -> ∀ μ w args',cI μ h w->AV μ h->aR μ args args'->CG P f args'.toArray w (nK μ h w K)
 round : ∀ l args h K,W (BS P l) args h K->cW h.next args=true->aJ h->P.globals.size<=h.n0 -> ∀ μ w args' L,cI μ h w->AV μ h->aR μ args args'->μ l=some L ->
  ∃ fn tmps assign body,(Instr.yield L.blk args'.toArray).run P w = .ok (.round L.blk fn tmps assign body) w /\ ∀ n,RoundIn (Fr none) n P L.blk fn tmps assign body w (nK μ h w K)
theorem vi {P:Program} {C:au} (hC:bp P C):mW P (wD C):=by
 have up : ∀ {f args h v h'} {K:Value->ai->Prop} {μ w},C f args h=some (v,h')->K v h'->cW h.next args=true->aJ h -> ∀ e w',nN μ h w v h' e w'->nK μ h w K e w':=by intro f args h v h' K μ w he hk hb hh e w' ha;obtain ⟨h1,h2⟩:=hC.bd _ _ _ _ _ he hb hh;exact ⟨v,h',hk,hC.grow _ _ _ _ _ he,h1,h2,ha⟩
 refine ⟨?_,?_⟩
 ·rintro f args h K ⟨v,h',he,hk⟩ hf hb hh hg μ w args' S t r;exact (hC.run _ _ _ _ _ he hf hb hh hg μ w args' S t.free r).mono (up he hk hb hh)
 ·rintro l args h K ⟨v,h',he,hk⟩ hb hh hg μ w args' L S t r hL;obtain ⟨fn,tmps,assign,body,h1,h2⟩:=hC.round _ _ _ _ _ he hb hh hg μ w args' L S t.free r hL;exact ⟨fn,tmps,assign,body,h1,fun n=>(h2 n).mono (up he hk hb hh)⟩
def callAW (P:Program) (W:lN) (f:Value) (args:List Value) (h:ai) (K:Value->ai->Prop):Prop:=
 match f with
 | .func (.func i) first captured=>i<P.funcs.size/\W i (first.toList++args++captured.toList) h K
 | .func (.yield l) first _=>W (BS P l) (first.toList++args) h K
 |_=>False
def noC:au:=fun _ _ _=>none
theorem vH (P:Program):bp P noC:=⟨by simp [noC],by simp [noC],by simp [noC],by simp [noC]⟩
def opW (P:Program) (W:lN) (o:Oper) (ρ:Operand->Value) (h:ai) (K:Value->ai->Prop):Prop:=
 match o.op with
 | .next it false => ∃ l,nextsA (ρ it) h=some l /\ ∀ r∈l,K r.1 r.2
 | .call { callee := .value f,args,.. }=>callAW P W (ρ f) (args.toList.map ρ) h K
 |_ => ∃ v h',opA P noC o ρ h=some (v,h')/\K v h'
def opsW (P:Program) (W:lN) (ops:Array Oper):List Oper->aX->ai->(aX->ai->Prop)->Prop
 | [],e,h,K=>K e h
 |o::cU,e,h,K=>if iZ ops o e=true then opW P W o (ev e) h fun v h'=>opsW P W ops cU (putD e o.dst v) h' K else opsW P W ops cU (putD e o.dst undef) h K
def nZ (step:aX->ai->(Ex->aX->ai->Prop)->Prop):Nat->aX->ai->(Ex->aX->ai->Prop)->Prop
 | 0,_,_,_=>False
 |n+1,e,h,K=>step e h fun x e' h'=>match x with
  | .normal=>nZ step n e' h' K
  |x=>K x e' h'
def codeW (P:Program) (C:au) (W:lN):Code->aX->ai->(Ex->aX->ai->Prop)->Prop
 | .skip,e,h,K=>K .normal e h
 | .region _ ops draw,e,h,K=>match draw with
   |true => ∃ e' h',regionA P C ops true e h=some (e',h')/\K .normal e' h'
   |false=>opsW P W ops ops.toList e h (K .normal)
 | .seq a b,e,h,K=>codeW P C W a e h fun x e' h'=>match x with
   | .normal=>codeW P C W b e' h' K
   |x=>K x e' h'
 | .cond c a b,e,h,K=>match ev e c with
   | .bool true=>codeW P C W a e h K
   | .bool false=>codeW P C W b e h K
   |_=>False
 | .block id b,e,h,K=>codeW P C W b e h fun x e' h'=>match x with
   | .exit i=>K (if i=id then .normal else .exit i) e' h'
   |x=>K x e' h'
 | .loop b,e,h,K=>nZ (codeW P C W b) aD e h K
 | .exit i,e,h,K=>K (.exit i) e h
 | .scope b,e,h,K=>codeW P C W b e h K
 | .label _,e,h,K=>K .normal e h
 | .ret,e,h,K=>K .ret e h
 | .rangeFunc g ps a b,e,h,K=>match ev e g with
   | .func (.func i) first captured=>hasBody P i=true/\W i (first.toList ++ [.func (.yield h.next) #[] #[]]++captured.toList) (h.br (.obj (.loop .ready none e ps.toList a b)))
     fun _ h2 => ∃ x e' h',endLoopA h.next e h2=some (x,e',h')/\K x e' h'
   |_=>False
 | .goto _,_,_,_=>False
 | .refuse _,_,_,_=>False
def uB (P:Program) (C:au) (W:lN) (fn:Func) (args:List Value) (h:ai) (K:Value->ai->Prop):Prop:=
 match fn.body with
 |none=>False
 |some c=>codeW P C W c (args++List.replicate (fn.ntmps-args.length) undef) h fun x e h'=>match x with
  | .exit _=>False
  |_ => ∃ v h2,resultsA P fn.results.toList e h'=some (v,h2)/\K v h2
section
variable {P:Program} {C:au} {W:lN}
def GoodW (P:Program) (o:Oper) (a:Act) (μ:Mu) (h:ai) (w:World) (K:Value->ai->Prop):Prop:=
 ∀ (r:Option Nat) (n:Nat) (K':Act->World->Prop) (Q:Exit->Act->World->Prop),
   (∀ v h' μ' v' w',K v h'->bD h h'->cz h'.next v=true->aJ h'->cI μ' h' w'->cH μ h w μ' h' w'->aI μ' v v'->K' (a.put o.dst v') w')->o.wpIn (Fr r) n P a w K' Q
theorem opW_det {o:Oper} {a:Act} {μ:Mu} {h:ai} {w:World} {ρ:Operand->Value} {K:Value->ai->Prop} (S:cI μ h w) (t:AV μ h) (hρ : ∀ x∈o.op.operands.toList,aI μ (ρ x) (a.eval x)) (hg:P.globals.size<=h.n0)
  (hbo : ∀ x∈o.op.operands.toList,cz h.next (ρ x)=true) (hbh:aJ h) (e : ∃ v h',opA P noC o ρ h=some (v,h')/\K v h'):GoodW P o a μ h w K:=by
 obtain ⟨v,h',ho,hk⟩:=e;intro r n K' Q hK;obtain ⟨h1,h2⟩:=Ab (vH P) hbh hbo ho;exact uM (vH P) S t.free hρ hg (fun _ _ _ _=>⟨hbo,hbh⟩) ho r n K' Q (fun μ' v' w' hS hSt hv=>hK v h' μ' v' w' hk (nO (vH P) ho) h1 h2 hS hSt hv)
theorem opW_sound (hW:mW P W) {o:Oper} {a:Act} {μ:Mu} {h:ai} {w:World} {ρ:Operand->Value} {K:Value->ai->Prop} (S:cI μ h w) (t:AV μ h) (hρ : ∀ x∈o.op.operands.toList,aI μ (ρ x) (a.eval x)) (hg:P.globals.size<=h.n0)
  (hbo : ∀ x∈o.op.operands.toList,cz h.next (ρ x)=true) (hbh:aJ h) (e:opW P W o ρ h K):GoodW P o a μ h w K:=by
 unfold opW at e;split at e
 ·rename_i it heq;rw [heq] at hρ hbo;obtain ⟨l,hl,hk⟩:=e;intro r n K' Q hK;obtain ⟨p,hp,v',w',hrun,hS,hSt,hv⟩:=wK (P:=P) (ty:=o.type) S (hρ it (by simp [Op.operands])) hl;obtain ⟨hb1,hb2⟩:=bd_nexts hbh hl p hp;refine ⟨fun _ _=>trivial,?_⟩;rw [gY (x := .value v') (w':=w') (by unfold execOp;rw [heq];simp only [Sem.run_bind,hrun,Result.andThen_ok,Sem.run_pure]) (by intro d hd;cases hd)];exact hK p.1 p.2 μ v' w' (hk p hp) (zY hl p hp) hb1 hb2 hS hSt hv
 ·rename_i f args tys heq;rw [heq] at hρ hbo;have hfv:=hρ f (by simp [Op.operands,Call.operands]);have hff:=hbo f (by simp [Op.operands,Call.operands]);have hargs : ∀ x∈args.toList,aI μ (ρ x) (a.eval x):=fun x hx=>hρ x (by simp only [Op.operands,Call.operands,GG,DU];exact .inr hx)
  have hargb:cW h.next (args.toList.map ρ)=true:=by rw [dY];intro y hy;obtain ⟨x,hx,rfl⟩:=E0.1 hy;exact hbo x (by simp only [Op.operands,Call.operands,GG,DU];exact .inr hx)
  unfold callAW at e;split at e
  ·rename_i i first captured hfe
   obtain ⟨hi,e⟩:=e;rw [hfe] at hfv;obtain ⟨g,first',captured',hfe',hg',h1,h2⟩:=hfv.nW;cases hg';have hall:=(h1.append (lG hargs)).append h2;have hba:cW h.next (first.toList++args.toList.map ρ++captured.toList)=true:=by
    rw [hfe] at hff;obtain ⟨lf⟩:=first
    obtain ⟨lc⟩:=captured;simp only [cz,DK] at hff;exact cg (cg hff.2.1 hargb) hff.2.2
   have hcalls:=hW.run _ _ _ _ e hi hba hbh hg μ w _ S t hall;intro r n K' Q hK;refine ⟨fun _ _=>trivial,?_⟩;have hres:(execOp a.eval o).run P w=(callFunc i ((first'.toList++args.toList.map a.eval++captured'.toList).toArray)).run P w:=by
    unfold execOp;rw [heq];simp only;unfold resolve;simp only [hfe',Deferred.ofValue,Sem.run_bind,Sem.run_pure,Result.andThen_ok,invoke]
    congr 2
    apply IL;simp
   rcases hcalls with ⟨fn,hfn,hname,hbody,hcalls⟩|⟨v',w',hrun,v0,h0,hk,hgr,hb1,hb2,μ',v1,hv1,hS,hSt,hv⟩
   ·rw [gY (x := .enter i ((first'.toList++args.toList.map a.eval++captured'.toList).toArray)) (w':=w) (by rw [hres];unfold callFunc;simp only [Sem.run_bind,run_program,Result.andThen_ok,hfn,hname,hbody,DG,EF,Sem.run_pure]) (by intro d hd;cases hd)]
    refine ⟨(fun h=>by cases h),?_⟩;refine (tF hcalls).mono ?_;rintro e w' ⟨v0,h0,hk,hgr,hb1,hb2,μ',v',rfl,hS,hSt,hv⟩;exact hK v0 h0 μ' v' w' hk hgr hb1 hb2 hS hSt hv
   ·cases hv1;rw [gY (x := .value v') (w':=w') (by rw [hres];exact hrun) (by intro d hd;cases hd)];exact hK v0 h0 μ' v' w' hk hgr hb1 hb2 hS hSt hv
  ·rename_i l first captured hfe
   rw [hfe] at hfv;obtain ⟨g,first',captured',hfe',hg',h1,h2⟩:=hfv.nW;obtain ⟨L,hL,rfl⟩:=hg';have hall:=h1.append (lG hargs);have hba:cW h.next (first.toList++args.toList.map ρ)=true:=by
    rw [hfe] at hff;obtain ⟨lf⟩:=first
    obtain ⟨lc⟩:=captured;simp only [cz,DK] at hff;exact cg hff.2.1 hargb
   obtain ⟨fn,tmps,assign,body,hy,hround⟩:=hW.round _ _ _ _ e hba hbh hg μ w _ L S t hall hL;intro r n K' Q hK;refine ⟨fun _ _=>trivial,?_⟩;have hres:(execOp a.eval o).run P w = .ok (.round L.blk fn tmps assign body) w:=by
    unfold execOp;rw [heq];simp only;unfold resolve;simp only [hfe',Deferred.ofValue,Sem.run_bind,Sem.run_pure,Result.andThen_ok,invoke];have:first'++args.map a.eval=(first'.toList++args.toList.map a.eval).toArray:=by apply IL;simp
    rw [this];exact hy
   rw [gY hres (by intro d hd;cases hd)];refine ⟨(fun h=>by cases h),?_⟩;refine RoundIn.mono (F:=Fr r) (hround (n-1)) ?_;rintro e w' ⟨v0,h0,hk,hgr,hb1,hb2,μ',v',rfl,hS,hSt,hv⟩;exact hK v0 h0 μ' v' w' hk hgr hb1 hb2 hS hSt hv
  ·exact e.elim
 ·exact opW_det S t hρ hg hbo hbh e
def QW (s:Nat) (μ:Mu) (h:ai) (w:World) (K:Ex->aX->ai->Prop) (Q:Exit->Act->World->Prop):Prop:=
 ∀ x e' h' a' w',K x e' h'->bD h h'->cW h'.next e'=true->aJ h'->(∃ μ' rs,cI μ' h' w'/\cH μ h w μ' h' w'/\iu (dF rs) μ' e' a'/\lz s μ' h' w' rs)->Q (Av x) a' w'
def u0 (P:Program) (C:au) (W:lN) (c:Code):Prop:=
 ∀ (ro:Option Nat) (nd s:Nat) (rs:List Nat) (e:aX) (h:ai) (K:Ex->aX->ai->Prop) (μ:Mu) (a:Act) (w:World) (Q:Exit->Act->World->Prop),codeW P C W c e h K->P.globals.size<=h.n0->cW h.next e=true->aJ h->cI μ h w->AV μ h ->
   iu (dF rs) μ e a->lz s μ h w rs->s<=w.heap.size->RoOk ro w->QW s μ h w K Q->c.wpIn (Fr ro) nd P Q a w
theorem r9 (hW:mW P W) {ro:Option Nat} {nd s:Nat} {rs:List Nat} {ops:Array Oper} {Q:Exit->Act->World->Prop} : ∀ (l:List Oper) (k:Nat) {μ:Mu} {e:aX} {h:ai} {K:aX->ai->Prop} {a:Act} {w:World},ops.toList.drop k=l->l.all (oF P)=true ->
  opsW P W ops l e h K->P.globals.size<=h.n0->cW h.next e=true->aJ h->cI μ h w->AV μ h->iu (dF rs) μ e a->lz s μ h w rs ->
  (∀ e' h' a' w',K e' h'->bD h h'->cW h'.next e'=true->aJ h'->(∃ μ' rs,cI μ' h' w'/\cH μ h w μ' h' w'/\iu (dF rs) μ' e' a'/\lz s μ' h' w' rs)->Q .normal a' w')->wpOpsIn (Fr ro) nd P ops Q (List.range' k l.length) a w
 | [],k,μ,e,h,K,a,w,_,_,he,_,hbe,hbh,S,t,r,m,hQ=>by simp only [List.length_nil,List.range'_zero,wpOpsIn];exact hQ e h a w he (bD.refl _) hbe hbh ⟨μ,rs,S,.cj,r,m⟩
 |o::l,k,μ,e,h,K,a,w,hd,hok,he,hg,hbe,hbh,S,t,r,m,hQ=>by
  simp only [opsW] at he;simp only [List.all_cons,DK] at hok;have hko:ops[k]? = some o:=by
   have:ops.toList[k]? = some o:=by have:=GM (fun l=>l[0]?) hd;simpa using this
   simpa using this
  have hd':ops.toList.drop (k+1)=l:=by have:=GM (List.drop 1) hd;rw [FV] at this;simpa [JM] using this
  simp only [List.length_cons,List.range'_succ,wpOpsIn,hko,yf (ops:=ops) r] at he |-;by_cases hw:Region.wanted o (yielded ops a.tmps)=true
  ·rw [DL hw] at he |-;have hbo : ∀ x∈o.op.operands.toList,cz h.next (ev e x)=true:=fun x hx=>wq hg hbe (DR.1 hok.1 x hx);refine opW_sound hW (ρ:=ev e) S t (fun x hx=>sg S hg r (DR.1 hok.1 x hx)) hg hbo hbh he _ _ _ _ ?_;intro v h1 μ1 v' w1 hk hgr hb1 hb2 hS hSt hv;refine r9 hW l (k+1) hd' hok.2 hk (by rw [hgr.2.1];exact hg) (mI (bZ hgr.1 hbe) hb1) hb2 hS (t.step hSt) ((r.mono (hSt.mono t.free)).put o.dst hv) (m.step hSt) ?_;rintro e' h' a' w' hk' hgr' hb1' hb2' ⟨μ2,rs2,hS2,hSt2,r2,m2⟩;exact hQ e' h' a' w' hk' (hgr.trans hgr') hb1' hb2' ⟨μ2,rs2,hS2,hSt.trans hSt2,r2,m2⟩
  ·rw [DM hw] at he |-;exact ⟨fun _ _=>trivial,r9 hW l (k+1) hd' hok.2 he hg (mI hbe rfl) hbh S t (r.put o.dst nY) m hQ⟩
theorem QW.trans {s:Nat} {μ μ1:Mu} {h h1:ai} {w w1:World} {K:Ex->aX->ai->Prop} {Q:Exit->Act->World->Prop} (q:QW s μ h w K Q) (hgr:bD h h1) (st:cH μ h w μ1 h1 w1):QW s μ1 h1 w1 K Q:=by rintro x e' h' a' w' hk hg hb1 hb2 ⟨μ',rs,S,St,r,m⟩;exact q x e' h' a' w' hk (hgr.trans hg) hb1 hb2 ⟨μ',rs,S,st.trans St,r,m⟩
theorem xN {b:Code} (hb:u0 P C W b) : ∀ (n:Nat) {e:aX} {h:ai} {K:Ex->aX->ai->Prop} {ro:Option Nat} {nd s:Nat} {rs:List Nat} {μ:Mu} {a:Act} {w:World} {Q:Exit->Act->World->Prop},nZ (codeW P C W b) n e h K ->
  P.globals.size<=h.n0->cW h.next e=true->aJ h->cI μ h w->AV μ h->iu (dF rs) μ e a->lz s μ h w rs->s<=w.heap.size->RoOk ro w->QW s μ h w K Q->Code.roundsIn (Fr ro) nd P b Q n a w
 | 0,_,_,_,_,_,_,_,_,_,_,_,he,_,_,_,_,_,_,_,_,_,_=>he.elim
 |n+1,e,h,K,ro,nd,s,rs,μ,a,w,Q,he,hg,hbe,hbh,S,t,r,hmk,hsz,hro,hQ=>by
  rw [pz];simp only [nZ] at he;refine hb _ _ s rs _ _ _ _ _ _ _ he hg hbe hbh S t r hmk hsz hro ?_;rintro x e' h' a' w' hk hgr hb1 hb2 ⟨μ1,rs1,hS,hSt,hr,hmk1⟩;cases x with
  |normal=>exact xN hb n hk (by rw [hgr.2.1];exact hg) hb1 hb2 hS (t.step hSt) hr hmk1 (D7 hsz hSt.size) (hro.step hSt) (hQ.trans hgr hSt)
  |ret=>exact hQ _ e' h' a' w' hk hgr hb1 hb2 ⟨μ1,rs1,hS,hSt,hr,hmk1⟩
  |exit i=>exact hQ _ e' h' a' w' hk hgr hb1 hb2 ⟨μ1,rs1,hS,hSt,hr,hmk1⟩
end
end
section
def pH (P : Program) (fn : Func) : Bool := !(fn.name == "runtime.NumGoroutine") && match fn.body with | some c => codeOk P c | none => false
section
variable {P:Program} {C:au}
theorem ld_bd {t:TypeId} {x v:Value} {h h':ai} (hb:aJ h) (hx:cz h.next x=true) (e:ld P t x h=some (v,h')):cz h.next v=true:=by
 have hC:bp P (fun _ _ _=>none):=⟨by simp,by simp,by simp,by simp⟩
 have:=Ab (P:=P) (C:=fun _ _ _=>none) (o:={ dst:=none,type:=0,op := .load t (.const x),after := #[],guard:=none,pos:=default }) (ρ:=fun o=>match o with | .const v=>v|_=>undef) hC hb
  (by
   intro y hy;have:y = .const x:=by simpa [Op.operands] using hy
   subst this;exact hx) (v:=v) (h':=h') e
 have hh:h'=h:=by
  unfold ld at e;split at e
  ·unfold du at e;split at e
   ·split at e
    ·split at e
     ·cases e;rfl
     ·cases e
    ·cases e
   ·cases e
  ·unfold ld1 at e
   repeat' split at e
   all_goals first
    | (cases e;done)
    | (simp only [DA,DN] at e;exact e.2.symm)
  ·cases e
 subst hh;exact this.1
theorem zh {r:ResultVar} {e:aX} {h:ai} {v:Value} (hb:aJ h) (he:cW h.next e=true) (x:gh P r e h=some v):cz h.next v=true:=by
 have key : ∀ t,cz h.next (e.getD t undef)=true:=by
  intro t;rw [DJ];cases ht:e[t]? with
  |none=>rfl
  |some y=>exact dY.1 he y (E3 ht)
 cases r with
 |tmp t=>simp only [gh,DA] at x;subst x;exact key t
 |cell a t=>
  simp only [gh,DQ] at x;obtain ⟨⟨y,h'⟩,h1,rfl⟩:=x;exact ld_bd hb (key a) h1
theorem wj {rs:List ResultVar} {e:aX} {h h':ai} {v:Value} (hb:aJ h) (he:cW h.next e=true) (x:resultsA P rs e h=some (v,h')):cz h'.next v=true/\aJ h':=by
 have hh:=jW x;subst hh;refine ⟨?_,hb⟩;unfold resultsA at x;split at x
 ·simp only [DQ,DN] at x;obtain ⟨v1,hv1,rfl,_⟩:=x;exact zh hb he hv1
 ·simp only [DQ,DN] at x;obtain ⟨vs,hvs,rfl,_⟩:=x;show cW _ vs=true;rw [dY];intro y hy;have : ∀ (rs:List ResultVar) (vs:List Value),rs.mapM (fun r=>gh P r e h')=some vs -> ∀ y∈vs,cz h'.next y=true:=by
   intro rs;induction rs with
   |nil=>intro vs hvs y hy;simp at hvs;subst hvs;cases hy
   |cons r rs ih=>
    intro vs hvs y hy;simp only [HT,Option.bind_eq_bind,DZ,Option.pure_def,DA] at hvs;obtain ⟨a,ha,b,hb2,rfl⟩:=hvs;rcases FQ.1 hy with rfl|hy
    ·exact zh hb he ha
    ·exact ih b hb2 y hy
  exact this _ _ hvs y hy
theorem zo (hC:bp P C) {fn:Func} {args:List Value} {h h':ai} {v:Value} (he:bodyA P C fn args h=some (v,h')):bD h h':=by
 unfold bodyA at he;split at he
 ·cases he
 ·rename_i c hb;cases hc:codeA P C c (args++List.replicate (fn.ntmps-args.length) undef) h with
  |none=>rw [hc] at he;cases he
  |some y=>
   obtain ⟨ex,e1,h2⟩:=y;rw [hc] at he;have hgrow:resultsA P fn.results.toList e1 h2=some (v,h'):=by
    cases ex with
    |normal=>exact he
    |ret=>exact he
    |exit i=>cases he
   rw [jW hgrow];exact cA hC c hc
theorem bodyA_bd (hC:bp P C) {fn:Func} {args:List Value} {h h':ai} {v:Value} (hok:pH P fn=true) (hg:P.globals.size<=h.n0) (he:bodyA P C fn args h=some (v,h')) (hba:cW h.next args=true) (hbh:aJ h) :
  cz h'.next v=true/\aJ h':=by
 unfold bodyA at he;split at he
 ·cases he
 ·rename_i c hb;have hco:codeOk P c=true:=by unfold pH at hok;rw [hb] at hok;simp only [DK] at hok;exact hok.2
  cases hc:codeA P C c (args++List.replicate (fn.ntmps-args.length) undef) h with
  |none=>rw [hc] at he;cases he
  |some y=>
   obtain ⟨ex,e1,h2⟩:=y;rw [hc] at he;have hr:resultsA P fn.results.toList e1 h2=some (v,h'):=by
    cases ex with
    |normal=>exact he
    |ret=>exact he
    |exit i=>cases he
   obtain ⟨h3,h4⟩:=dV hC c hco hg (cg hba (dY.2 fun x hx=>by rw [GP hx];rfl)) hbh hc;exact wj h4 h3 hr
end
def bare (P:Program):ai:=⟨P.globals.size,fun _=>none,.nil,0⟩
end
end Go.Abs
