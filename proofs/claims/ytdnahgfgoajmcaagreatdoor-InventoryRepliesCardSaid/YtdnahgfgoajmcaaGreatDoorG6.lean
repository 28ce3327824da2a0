/-
  A part of the proof, spaces and names shortened by a program (a claim may hold 1,500,000 bytes).
  Conditions: as each theorem states.
-/
import Derived.Test.YtdnahgfgoajmcaaGreatDoorG5
import Derived.LoopNIn
namespace Go.Abs
section
def AP:Ex->Exit
 | .normal => .normal
 | .ret => .ret
 | .exit i => .exit i
section code
variable {P:Program} {C:aj}
theorem dK {l:Nat} {e e':aW} {h h':ad} {x:Ex} (he:endLoopA l e h=some (x,e',h')) :
  ∃ st pend tmps params assign body,h.getB l=some (.obj (.loop st pend tmps params assign body))/\st ≠ .busy/\x=pend.getD .normal/\e'=e/\h'=h.setO l (.loop .exhausted pend tmps params assign body):=by
 unfold endLoopA at he;split at he
 ·rename_i st pend tmps params assign body hg;split at he
  ·cases he
  ·rename_i hb;cases he;exact ⟨st,pend,tmps,params,assign,body,hg,hb,rfl,rfl,rfl⟩
 ·cases he
theorem lh {g:Operand} {params:Array Tmp} {assign body:Code} {e e':aW} {h h':ad} {x:Ex} (he:codeA P C (.rangeFunc g params assign body) e h=some (x,e',h')) :
  ∃ i first captured v h2, ev e g = .func (.func i) first captured ∧ (∃ fn, P.funcs[i]? = some fn ∧ (fn.name == "runtime.NumGoroutine") = false ∧ fn.body.isNone = false) ∧
   C i (first.toList ++ [.func (.yield h.next) #[] #[]]++captured.toList) (h.bn (.obj (.loop .ready none e params.toList assign body)))=some (v,h2)/\endLoopA h.next e h2=some (x,e',h'):=by
 simp only [codeA] at he;split at he
 ·rename_i i first captured hev
  split at he
  ·rename_i hi;split at he
   ·rename_i v h2 hc;refine ⟨i,first,captured,v,h2,hev,?_,hc,he⟩;unfold hasBody at hi;split at hi
    ·rename_i fn hf;rw [DJ,FK] at hi;exact ⟨fn,hf,hi.2,by rw [Option.isNone_eq_false_iff];exact hi.1⟩
    ·cases hi
   ·cases he
  ·cases he
 ·cases he
theorem uI (hC:bp P C) {ops:Array Oper} : ∀ (l:List Oper) {e e':aW} {h h':ad},opsA P C ops l e h=some (e',h')->bC h h'
 | [],e,e',h,h',he=>by simp only [opsA,DE,DO] at he;obtain ⟨_,rfl⟩:=he;exact bC.refl _
 |o::l,e,e',h,h',he=>by
  simp only [opsA] at he;split at he
  ·rename_i e1 h1 hs;unfold stepA at hs;split at hs
   ·split at hs
    ·rename_i v hv hop;cases hs;exact (nj hC hop).trans (uI hC l he)
    ·cases hs
   ·cases hs;exact uI hC l he
  ·cases he
theorem uo (hC:bp P C) {ops:Array Oper} {d:Bool} {e e':aW} {h h':ad} (he:regionA P C ops d e h=some (e',h')):bC h h':=by
 unfold regionA at he;split at he
 ·split at he
  ·split at he
   ·rename_i tr e1 h1 htr;split at he
    ·simp only [DE,DO] at he;obtain ⟨rfl,rfl⟩:=he;obtain ⟨E,H,V,R,e0,h0,en,hn,T,_⟩:=qh htr;rw [<-h0,<-hn];exact T.grow hC (FN _) (DF _)
    ·cases he
   ·cases he
  ·cases he
 ·exact uI hC _ he
theorem ve {step:aW->ad->Option (Ex×aW×ad)} (hs : ∀ e h x e' h',step e h=some (x,e',h')->bC h h') : ∀ (n:Nat) {e e':aW} {h h':ad} {x:Ex},iter step n e h=some (x,e',h')->bC h h'
 | 0,e,e',h,h',x,he=>by cases he
 |n+1,e,e',h,h',x,he=>by
  simp only [iter] at he;split at he
  ·rename_i e1 h1 h2;exact (hs _ _ _ _ _ h2).trans (ve hs n he)
  ·exact hs _ _ _ _ _ he
theorem bY (hC:bp P C) : ∀ (c:Code) {e e':aW} {h h':ad} {x:Ex},codeA P C c e h=some (x,e',h')->bC h h'
 | .skip,e,e',h,h',x,he=>by simp only [codeA,DE,DO] at he;obtain ⟨_,_,rfl⟩:=he;exact bC.refl _
 | .region _ ops d,e,e',h,h',x,he=>by
   simp only [codeA] at he;split at he
   ·rename_i e1 h1 h2;cases he;exact uo hC h2
   ·cases he
 | .seq a b,e,e',h,h',x,he=>by
   simp only [codeA] at he;split at he
   ·rename_i e1 h1 h2;exact (bY hC a h2).trans (bY hC b he)
   ·exact bY hC a he
 | .cond c a b,e,e',h,h',x,he=>by
   simp only [codeA] at he;split at he
   ·exact bY hC a he
   ·exact bY hC b he
   ·cases he
 | .block i b,e,e',h,h',x,he=>by
   simp only [codeA] at he;split at he
   ·rename_i j e1 h1 h2;simp only [DE,DO] at he;obtain ⟨_,_,rfl⟩:=he;exact bY hC b h2
   ·exact bY hC b he
 | .loop b,e,e',h,h',x,he=>by simp only [codeA] at he;exact ve (fun _ _ _ _ _ h=>bY hC b h) _ he
 | .exit _,e,e',h,h',x,he=>by simp only [codeA,DE,DO] at he;obtain ⟨_,_,rfl⟩:=he;exact bC.refl _
 | .scope b,e,e',h,h',x,he=>by simp only [codeA] at he;exact bY hC b he
 | .label _,e,e',h,h',x,he=>by simp only [codeA,DE,DO] at he;obtain ⟨_,_,rfl⟩:=he;exact bC.refl _
 | .ret,e,e',h,h',x,he=>by simp only [codeA,DE,DO] at he;obtain ⟨_,_,rfl⟩:=he;exact bC.refl _
 | .goto _,e,e',h,h',x,he=>by cases he
 | .rangeFunc ..,e,e',h,h',x,he=>by obtain ⟨i,first,captured,v,h2,_,_,hc,hl⟩:=lh he;obtain ⟨_,_,_,_,_,_,_,_,_,_,rfl⟩:=dK hl;exact ((bC.allocO _ _).trans (hC.grow _ _ _ _ _ hc)).trans (bC.setO _ _ _)
 | .refuse _,e,e',h,h',x,he=>by cases he
theorem Cu (hC:bp P C) {ops:Array Oper} : ∀ (l:List Oper) {e e':aW} {h h':ad},l.all (nJ P)=true->P.globals.size<=h.n0->cL h.next e=true->aI h->opsA P C ops l e h=some (e',h')->cL h'.next e'=true/\aI h'
 | [],e,e',h,h',_,_,he,hh,h1=>by simp only [opsA,DE,DO] at h1;obtain ⟨rfl,rfl⟩:=h1;exact ⟨he,hh⟩
 |o::l,e,e',h,h',hok,hg,he,hh,h1=>by
  simp only [List.all_cons,DJ] at hok;simp only [opsA] at h1;split at h1
  ·rename_i e1 h2 hs;unfold stepA at hs;split at hs
   ·split at hs
    ·rename_i v hv hop;cases hs;have hgr:=nj hC hop;obtain ⟨g1,g2⟩:=zc hC hh (fun x hm=>wq hg he (DT.1 hok.1 x hm)) hop;exact Cu hC l hok.2 (by rw [hgr.2.1];exact hg) (lH (bS hgr.1 he) g1) g2 h1
    ·cases hs
   ·cases hs;exact Cu hC l hok.2 hg (lH he rfl) hh h1
  ·cases h1
theorem yT (hC:bp P C) {ops:Array Oper} {d:Bool} {e e':aW} {h h':ad} (hok:ops.toList.all (nJ P)=true) (hg:P.globals.size<=h.n0) (hbe:cL h.next e=true) (hbh:aI h)
  (he:regionA P C ops d e h=some (e',h')):cL h'.next e'=true/\aI h':=by
 unfold regionA at he;split at he
 ·split at he
  ·split at he
   ·rename_i tr e1 h1 htr;split at he
    ·simp only [DE,DO] at he;obtain ⟨rfl,rfl⟩:=he;obtain ⟨E,H,V,R,e0,h0,en,hn,T,_⟩:=qh htr;rw [<-en,<-hn];exact T.bd hC (by rw [h0];exact hg) (fun p x hx=>DT.1 hok x.2 (by rw [GI];exact HE (yF.1 (EY hx)))) (by rw [h0,e0];exact hbe) (by rw [h0];exact hbh) _ (DF _)
    ·cases he
   ·cases he
  ·cases he
 ·exact Cu hC _ hok hg hbe hbh he
theorem iter_bd (hC:bp P C) {b:Code} (hb : ∀ e h x e' h',P.globals.size<=h.n0->cL h.next e=true->aI h->codeA P C b e h=some (x,e',h')->cL h'.next e'=true/\aI h') :
  ∀ (n:Nat) {e e':aW} {h h':ad} {x:Ex},P.globals.size<=h.n0->cL h.next e=true->aI h->iter (codeA P C b) n e h=some (x,e',h')->cL h'.next e'=true/\aI h'
 | 0,e,e',h,h',x,_,_,_,he=>by cases he
 |n+1,e,e',h,h',x,hg,hbe,hbh,he=>by
  simp only [iter] at he;split at he
  ·rename_i e1 h1 h2;obtain ⟨g1,g2⟩:=hb _ _ _ _ _ hg hbe hbh h2;exact iter_bd hC hb n (by rw [(bY hC b h2).2.1];exact hg) g1 g2 he
  ·exact hb _ _ _ _ _ hg hbe hbh he
theorem dC (hC:bp P C) : ∀ (c:Code) {e e':aW} {h h':ad} {x:Ex},codeOk P c=true->P.globals.size<=h.n0->cL h.next e=true->aI h->codeA P C c e h=some (x,e',h')->cL h'.next e'=true/\aI h'
 | .skip,e,e',h,h',x,_,_,hbe,hbh,he=>by simp only [codeA,DE,DO] at he;obtain ⟨_,rfl,rfl⟩:=he;exact ⟨hbe,hbh⟩
 | .region _ ops d,e,e',h,h',x,hok,hg,hbe,hbh,he=>by
   simp only [codeOk] at hok;simp only [codeA] at he;split at he
   ·rename_i e1 h1 h2;cases he;exact yT hC hok hg hbe hbh h2
   ·cases he
 | .seq a b,e,e',h,h',x,hok,hg,hbe,hbh,he=>by
   simp only [codeOk,DJ] at hok;simp only [codeA] at he;split at he
   ·rename_i e1 h1 h2;obtain ⟨g1,g2⟩:=dC hC a hok.1 hg hbe hbh h2;exact dC hC b hok.2 (by rw [(bY hC a h2).2.1];exact hg) g1 g2 he
   ·exact dC hC a hok.1 hg hbe hbh he
 | .cond c a b,e,e',h,h',x,hok,hg,hbe,hbh,he=>by
   simp only [codeOk,DJ] at hok;simp only [codeA] at he;split at he
   ·exact dC hC a hok.1.2 hg hbe hbh he
   ·exact dC hC b hok.2 hg hbe hbh he
   ·cases he
 | .block i b,e,e',h,h',x,hok,hg,hbe,hbh,he=>by
   simp only [codeOk] at hok;simp only [codeA] at he;split at he
   ·rename_i j e1 h1 h2;simp only [DE,DO] at he;obtain ⟨_,rfl,rfl⟩:=he;exact dC hC b hok hg hbe hbh h2
   ·exact dC hC b hok hg hbe hbh he
 | .loop b,e,e',h,h',x,hok,hg,hbe,hbh,he=>by simp only [codeOk] at hok;simp only [codeA] at he;exact iter_bd hC (fun _ _ _ _ _ h1 h2 h3 h4=>dC hC b hok h1 h2 h3 h4) _ hg hbe hbh he
 | .exit _,e,e',h,h',x,_,_,hbe,hbh,he=>by simp only [codeA,DE,DO] at he;obtain ⟨_,rfl,rfl⟩:=he;exact ⟨hbe,hbh⟩
 | .scope b,e,e',h,h',x,hok,hg,hbe,hbh,he=>by simp only [codeOk] at hok;simp only [codeA] at he;exact dC hC b hok hg hbe hbh he
 | .label _,e,e',h,h',x,_,_,hbe,hbh,he=>by simp only [codeA,DE,DO] at he;obtain ⟨_,rfl,rfl⟩:=he;exact ⟨hbe,hbh⟩
 | .ret,e,e',h,h',x,_,_,hbe,hbh,he=>by simp only [codeA,DE,DO] at he;obtain ⟨_,rfl,rfl⟩:=he;exact ⟨hbe,hbh⟩
 | .goto _,e,e',h,h',x,_,_,_,_,he=>by cases he
 | .rangeFunc g params assign body,e,e',h,h',x,hok,hg,hbe,hbh,he=>by
   simp only [codeOk] at hok;obtain ⟨i,first,captured,v,h2,hev,hi,hc,hl⟩:=lh he;obtain ⟨st,pend,tmps,ps,as,bo,hgl,_,_,rfl,rfl⟩:=dK hl;have hv:=wq hg hbe hok;rw [hev] at hv;obtain ⟨lf⟩:=first
   obtain ⟨lc⟩:=captured;simp only [bW,DJ] at hv;have hal:aI (h.bn (.obj (.loop .ready none e' params.toList assign body))):=hbh.allocO (bS (HG _) hbe);obtain ⟨h3,h4⟩:=hC.bd _ _ _ _ _ hc (bV (bV (bS (by simp) hv.2.1) (by simp [cL,bW,bdF])) (bS (by simp) hv.2.2)) hal;have hgr:=hC.grow _ _ _ _ _ hc;have hob:=h4.obj _ _ hgl;refine ⟨bS ?_ hbe,h4.setO (h2.bE hgl) hgl hob⟩;have:=hgr.1;simp only [ad.fR] at this;simp only [ad.jU];omega
 | .refuse _,e,e',h,h',x,_,_,_,_,he=>by cases he
def dq (rs:List Nat):List Deferred:=rs.map fun r=>{ target := .collected r,args := #[] }
structure kv (s:Nat) (μ:Mu) (h:ad) (w:World) (rs:List Nat):Prop where
 dup:rs.Nodup
 fA : ∀ r∈rs,s<=r/\w.heap[r]? = some (.deferred (some [])) /\ ¬A0 μ h r
theorem kv.step {s:Nat} {μ μ':Mu} {h h':ad} {w w':World} {rs:List Nat} (m:kv s μ h w rs) (st:cd μ h w μ' h' w'):kv s μ' h' w' rs:=by
 refine ⟨m.dup,fun r hr => ?_⟩;obtain ⟨h1,h2,h3⟩:=m.fA r hr;have hlt:=(DX.1 h2).1;refine ⟨h1,by rw [st.same r hlt h3];exact h2,fun ho => ?_⟩;rcases st.own r ho with h4|h4
 ·exact h3 h4
 ·omega
def RoOk (ro:Option Nat) (w:World):Prop := ∀ l,ro=some l -> ∃ r,w.heap[l]? = some (Obj.loop r)
theorem RoOk.step {ro:Option Nat} {μ μ':Mu} {h h':ad} {w w':World} (m:RoOk ro w) (st:cd μ h w μ' h' w'):RoOk ro w':=fun l hl=>by obtain ⟨r,hr⟩:=m l hl;exact st.loops l r hr
def qK (s:Nat) (μ:Mu) (h:ad) (w:World) (e':aW) (h':ad) (a':Act) (w':World):Prop:=
 ∃ μ' rs,cm μ' h' w'/\cd μ h w μ' h' w'/\gG (dq rs) μ' e' a'/\kv s μ' h' w' rs
def zF (P:Program) (C:aj) (c:Code):Prop:=
 ∀ (ro:Option Nat) (nd s:Nat) (rs:List Nat) (e e':aW) (h h':ad) (x:Ex) (μ:Mu) (a:Act) (w:World) (Q:Exit->Act->World->Prop),codeA P C c e h=some (x,e',h')->P.globals.size<=h.n0->cL h.next e=true->aI h->cm μ h w->fh μ h h' ->
   gG (dq rs) μ e a->kv s μ h w rs->s<=w.heap.size->RoOk ro w->(∀ a' w',qK s μ h w e' h' a' w'->Q (AP x) a' w')->c.wpIn (Fr ro) nd P Q a w
theorem qK.trans {s:Nat} {μ μ1:Mu} {h h1 h2:ad} {w w1 w2:World} {e2:aW} {a2:Act} (st:cd μ h w μ1 h1 w1) (b:qK s μ1 h1 w1 e2 h2 a2 w2):qK s μ h w e2 h2 a2 w2:=by obtain ⟨μ2,rs,hS,hSt,hr,hm⟩:=b;exact ⟨μ2,rs,hS,st.trans hSt,hr,hm⟩
theorem sE.m {s:Nat} {rs:List Nat} {μ:Mu} {h h':ad} {w w':World} {e':aW} {a':Act} (m:kv s μ h w rs) (b:sE (dq rs) μ h w e' h' a' w'):qK s μ h w e' h' a' w':=by obtain ⟨μ',hS,hSt,hr⟩:=b;exact ⟨μ',rs,hS,hSt,hr,m.step hSt⟩
theorem pd {F:Fence} {n:Nat} {Q:Exit->Act->World->Prop} {c:Code} (k:Nat) (a:Act) (w:World):Code.roundsIn F n P c Q (k+1) a w=c.wpIn F n P (Exit.then (Code.roundsIn F n P c Q k) Q) a w:=rfl
theorem Bv (hC:bp P C) {b:Code} (hb:zF P C b)
  (hbd : ∀ e h x e' h',P.globals.size<=h.n0->cL h.next e=true->aI h->codeA P C b e h=some (x,e',h')->cL h'.next e'=true/\aI h') : ∀ (n:Nat) {e e':aW} {h h':ad} {x:Ex} {ro:Option Nat} {nd s:Nat} {rs:List Nat} {μ:Mu} {a:Act} {w:World} {Q:Exit->Act->World->Prop},iter (codeA P C b) n e h=some (x,e',h') ->
  P.globals.size<=h.n0->cL h.next e=true->aI h->cm μ h w->fh μ h h'->gG (dq rs) μ e a->kv s μ h w rs->s<=w.heap.size->RoOk ro w->(∀ a' w',qK s μ h w e' h' a' w'->Q (AP x) a' w')->Code.roundsIn (Fr ro) nd P b Q n a w
 | 0,_,_,_,_,_,_,_,_,_,_,_,_,_,he,_,_,_,_,_,_,_,_,_,_=>by cases he
 |n+1,e,e',h,h',x,ro,nd,s,rs,μ,a,w,Q,he,hg,hbe,hbh,S,hf,r,hmk,hsz,hro,hQ=>by
  rw [pd];simp only [iter] at he;split at he
  ·rename_i e1 h1 h2;have hgr:=bY hC b h2;have hgr2:=ve (fun _ _ _ _ _ h=>bY hC b h) _ he;refine hb _ _ s rs _ _ _ _ _ _ _ _ _ h2 hg hbe hbh S (hf.first hgr2.1) r hmk hsz hro ?_;rintro a1 w1 ⟨μ1,rs1,hS,hSt,hr,hmk1⟩;exact Bv hC hb hbd n he (by rw [hgr.2.1];exact hg) (hbd _ _ _ _ _ hg hbe hbh h2).1 (hbd _ _ _ _ _ hg hbe hbh h2).2 hS (hf.mL hSt) hr hmk1 (D5 hsz hSt.size) (hro.step hSt) (fun a' w' hb'=>hQ a' w' (hb'.trans hSt))
  ·rename_i hne;refine hb _ _ s rs _ _ _ _ _ _ _ _ _ he hg hbe hbh S hf r hmk hsz hro ?_;intro a1 w1 hb1;have hq:=hQ a1 w1 hb1;cases x with
   |normal=>exact absurd he (hne _ _)
   |ret=>exact hq
   |exit i=>exact hq
theorem mW {w:World} {l₀:Nat} {r₀:Loop} (fn:FuncId) (tmps:Array Value) (ps:Array Tmp) (assign body:Code) (hr:w.heap[l₀]? = some (Obj.loop r₀)) :
  (Instr.enterLoop fn tmps ps assign body (some l₀)).run P w =
   .ok (w.heap.size,[]) (w.alloc (.loop { state := .ready,pending:=none,fn,tmps,params:=ps,assign,body,defers:=r₀.defers })):=by
 unfold Instr.enterLoop;simp only [pure_bind, Sem.run_bind, run_getLoop hr, run_newObj_alloc, Result.andThen, Sem.run_pure]
section scope
variable {b:Frame} {a:Act} {k:List Item} {cs:List Frame} {w:World}
theorem hU {c:Code}:step P (lone (b.atR a (.code (.scope c)::k)) cs w) = .next (lone (b.atR a (.code c :: .inScope c::k)) cs w):=
 step_lone_go (by simp [stepG,stepG.exec,Frame.atR])
theorem AK {c:Code}:step P (lone (b.atR a (.inScope c::k)) cs w) = .next (lone (b.atR a k) cs w):=
 step_lone_go (by simp [stepG,stepG.exec,Frame.atR])
theorem jN {F:Fence} {n:Nat} {Q:Exit->Act->World->Prop} {c:Code} (h:c.wpIn F n P (Exit.noGoto Q) a w):(Code.scope c).wpIn F n P Q a w:=by
 intro b k cs hro hb hr;have h0:(lone (b.atR a (.code (.scope c)::k)) cs w).fenced P F:=fenced_calm hb hr rfl;obtain ⟨e,a₁,w₁,hq,harr⟩:=h b (.inScope c::k) cs hro hb hr;cases e with
 |normal=>exact ⟨.normal,a₁,w₁,hq,.head h0 hU (StepsIn.trans harr (.one (fenced_calm hb hr rfl) AK))⟩
 |exit id=>
  have hx:exitTo id (.inScope c::k)=exitTo id k:=by simp [exitTo]
  exact ⟨.exit id,a₁,w₁,hq,fun k' hk => .head h0 hU (harr.1 k' (by rw [hx];exact hk)),
   fun hr' hk=>let ⟨k₁,h1,h2⟩:=harr.2 hr' (by rw [hx];exact hk);⟨k₁,h1,.head h0 hU h2⟩⟩
 |goto l=>exact hq.elim
 |ret=>exact ⟨_,a₁,w₁,hq,.of_steps (.one h0 hU) harr⟩
 |panic ch=>exact ⟨_,a₁,w₁,hq,.of_steps (.one h0 hU) harr⟩
 |outgrown=>exact ⟨_,a₁,w₁,hq,.of_steps (.one h0 hU) harr⟩
end scope
theorem yo {F:Fence} {n:Nat} {Q:Exit->Act->World->Prop} {a:Act} {w:World} {x:Ex} (h:Q (AP x) a w):(Cw x).wpIn F n P Q a w:=by
 cases x with
 |normal=>exact wpIn_skip h
 |ret=>exact wpIn_ret h
 |exit i=>exact wpIn_exit h
theorem range_good (hC:bp P C) {g:Operand} {params:Array Tmp} {assign body:Code} (hok:codeOk P (.rangeFunc g params assign body)=true):zF P C (.rangeFunc g params assign body):=by
 intro ro nd s rs e e' h h' x μ a w Q he hg hbe hbh S hf r hmk hsz hro hQ;simp only [codeOk] at hok;obtain ⟨i,first,captured,v,h2,hev,⟨fn0,hfn,hname,hbody⟩,hc,hl⟩:=lh he;have hi:i<P.funcs.size:=(DX.1 hfn).1;obtain ⟨st,pend,tmps,ps,as,bo,hgl,hst,rfl,rfl,rfl⟩:=dK hl;have hgr:=hC.grow _ _ _ _ _ hc;have hgr1:h.next+1<=h2.next:=by have:=hgr.1;simpa using this
 have hbv:=wq hg hbe hok;have hal:aI (h.bn (.obj (.loop .ready none e' params.toList assign body))):=hbh.allocO (bS (HG _) hbe);have hrv:=rU S hg r hok;rw [hev] at hbv hrv;obtain ⟨fg,first',captured',hfe,hfg,hr1,hr2⟩:=hrv.ng;cases hfg;have hba:cL (h.bn (.obj (.loop .ready none e' params.toList assign body))).next (first.toList ++ [.func (.yield h.next) #[] #[]]++captured.toList)=true:=by
  obtain ⟨lf⟩:=first
  obtain ⟨lc⟩:=captured;simp only [bW,DJ] at hbv;exact bV (bV (bS (by simp) hbv.2.1) (by simp [cL,bW,bdF])) (bS (by simp) hbv.2.2)
 have hfree1:fh μ h (h.bn (.obj (.loop .ready none e' params.toList assign body))):=fun b h1 h3=>hf b h1 (by simp at h3;simp only [ad.jU];omega);have main : ∀ (fn:FuncId) (l:Nat) (rs':List Nat) (w1:World) (ob:Loop),(Instr.enterLoop fn a.tmps params assign body ro).run P w = .ok (l,dq rs') w1->w.heap.size<=l->w1.heap.size=l+1 ->
   (∀ C,C<w.heap.size->w1.heap[C]? = w.heap[C]?)->w1.heap[l]? = some (Obj.loop ob)->w1.os=w.os->w1.tape=w.tape->w1.output=w.output->w.drawn<=w1.drawn ->
   ob.state = .ready->ob.pending=none->ob.tmps=a.tmps->ob.params=params->ob.assign=assign->ob.body=body ->
   (∀ r∈rs',w.heap.size<=r/\r≠l/\w1.heap[r]? = some (.deferred (some [])))->rs'.Nodup ->
   ∃ (l:Nat) (mark:List Deferred) (w₁:World) (d:Deferred) (w₁':World) (f:FuncId) (args:Array Value) (w₂:World),
   (Instr.enterLoop fn a.tmps params assign body (Fr ro).round).run P w = .ok (l,mark) w₁ /\
   (resolve a.eval (rangeCall g l) 0).run P w₁ = .ok d w₁' /\
   (∀ f',Target.leads P w₁' d.target d.args=some f'->(Fr ro).fn f') /\
   (invoke d.target d.args).run P w₁' = .ok (.enter f args) w₂ /\
   ((Fr ro).depth.isSome=true->1<=nd) /\
   CallsIn (Fr ro) (nd-1) P f args w₂ (rangePost (Fr ro) nd P l Q { a with defers:=mark++a.defers }):=by
  intro fn l rs' w1 ob hent hl1 hl2 hold hnew ho ht hp hdw q1 q2 q3 q4 q5 q6 hrs hnd;obtain ⟨S1,St1⟩:=S.allocO (o := .loop .ready none e' params.toList assign body) hfree1 (ob := .loop ob) (w1:=w1) (B:=l) ho ht hp hl1 hl2 hold hnew
   ⟨q1,by rw [q2];rfl,by rw [q3];exact r.1.mono (Mu.jA (hfree1 _ (DF _) (by simp))),by rw [q4],q5,q6⟩ hdw
  have hmono:=Mu.jA (L:=⟨l,0,0,0⟩) (hfree1 _ (DF _) (by simp));have hyl:aG (μ.put h.next ⟨l,0,0,0⟩) (.func (.yield h.next) #[] #[]) (.func (.yield l) #[] #[]) := .func ⟨_,Mu.cj _ _ _,rfl⟩ rfl (by simp) rfl (by simp);have hall:=((hr1.mono hmono).append (aP.cons hyl (aP.nil _))).append (hr2.mono hmono);have hfree2:fh (μ.put h.next ⟨l,0,0,0⟩) (h.bn (.obj (.loop .ready none e' params.toList assign body))) h2:=(fh.mL (h'':=h2) (fun b h1 h3=>hf b h1 h3) St1)
  have hcalls:=(hC.run _ _ _ _ _ hc hi hba hal (by simpa using hg) _ w1 _ S1 hfree2 hall).iO hfn hname hbody;refine ⟨l,dq rs',w1,{ target := .fn (.func i) captured',args:=first' ++ #[.func (.yield l) #[] #[]] },w1,i,_,w1,hent,?_,fun _ _=>trivial,?_,(fun h=>by cases h),(tZ (r:=ro) (n:=nd-1) hcalls).mono ?_⟩
  ·unfold resolve;simp only [hfe,Deferred.ofValue,List.map_toArray,FL,HH,show a.eval (.const (.func (.yield l) #[] #[])) = .func (.yield l) #[] #[] from rfl];rfl
  ·simp only [invoke,callFunc,Sem.run_bind,run_program,Result.andThen_ok,hfn,hname,hbody,DD,D3,Sem.run_pure]
   congr 2
   apply H3;simp
  ·rintro en w3 ⟨μ3,v3,rfl,S3,St3,hv3⟩;have hμ3:μ3 h.next=some ⟨l,0,0,0⟩:=St3.mono hfree2 _ _ (Mu.cj _ _ _);obtain ⟨L,ob3,g1,g2,g3,g4,g5⟩:=S3.obj h.next _ (h2.bE hgl) hgl;rw [hμ3] at g1;cases g1;cases ob3 with
   |loop r3=>
    obtain ⟨k1,k2,k3,k4,k5,k6⟩:=g3;have hend:(Instr.endLoop l).run P w3 = .ok r3.pending (w3.putObj l (.loop { r3 with state := .exhausted })):=run_endLoop g2 (by rw [k1];exact hst);refine ⟨r3.pending,_,hend,?_⟩;obtain ⟨S4,St4⟩:=S3.setO (o' := .loop .exhausted pend tmps ps as bo) (ob' := .loop { r3 with state := .exhausted }) hgl hμ3 ⟨rfl,k2,k3,k4,k5,k6⟩;have StA:=(St1.trans St3).trans St4;have hq:Q (AP (pend.getD .normal)) { a with defers:=dq rs'++a.defers } (w3.putObj l (.loop { r3 with state := .exhausted })):=by
     refine hQ _ _ ⟨μ3,rs'++rs,S4,StA,⟨?_,?_⟩,?_⟩
     ·exact r.1.mono (StA.mono hf)
     ·rw [r.2];simp [dq]
     ·have hm1:=hmk.step StA;have hnew2 : ∀ r∈rs',¬A0 μ h r:=by rintro r hr ⟨b,k,L,o1,o2,o3,o4⟩;obtain ⟨L2,ob2,p1,p2,p3⟩:=S.place o1 o2;rw [p1] at o3;cases o3;have:=(DX.1 p2).1;have:=(hrs r hr).1;omega
      have own1 : ∀ r∈rs',¬A0 (μ.put h.next ⟨l,0,0,0⟩) (h.bn (.obj (.loop .ready none e' params.toList assign body))) r:=by
       rintro r hr ⟨b,k,L,o1,o2,o3,o4⟩;rw [h.bI] at o2;by_cases eb:b=h.next
       ·subst eb;rw [Mu.cj] at o3;cases o3;exact (hrs r hr).2.1 o4.symm
       ·rw [DM eb] at o2;rw [Mu.cN _ _ eb] at o3;exact hnew2 r hr ⟨b,k,L,o1,o2,o3,o4⟩
      have mk1:kv s (μ.put h.next ⟨l,0,0,0⟩) (h.bn (.obj (.loop .ready none e' params.toList assign body))) w1 rs':=
       ⟨hnd,fun r hr=>⟨D5 hsz (hrs r hr).1,(hrs r hr).2.2,own1 r hr⟩⟩
      have mk2:=mk1.step (St3.trans St4);refine ⟨?_,fun r hr => ?_⟩
      ·rw [IS];refine ⟨hnd,hmk.dup,fun x hx y hy e => ?_⟩;have h5:=(hrs x hx).1;have h6:=(DX.1 (hmk.fA y hy).2.1).1;omega
      ·rcases D9.1 hr with h5|h5
       ·exact mk2.fA r h5
       ·exact hm1.fA r h5
    generalize w3.putObj l (.loop { r3 with state := .exhausted })=W at hq |-;generalize r3.pending=q at k2 |-;subst k2;cases pend with
    |none=>exact hq
    |some y=>exact yo hq
   |_=>exact g3.elim
 refine wpIn_rangeFunc fun fn _ => ?_;cases ro with
 |none=>
  refine main fn (w.heap.size+1) [w.heap.size] _ _ (run_enterLoop_outer fn a.tmps params assign body) (HG _) (by simp) ?_ (by have:=World.alloc_heap_new (w.alloc (.deferred (some []))) (.loop { state := .ready,pending:=none,fn,tmps:=a.tmps,params,assign,body,defers:=w.heap.size });simpa using this) rfl rfl rfl (DF _) rfl rfl rfl rfl rfl rfl ?_ (by simp)
  ·intro C hC;rw [dt _ _ _ (by simp;omega),dt _ _ _ hC]
  ·intro r hr;rw [EH.1 hr];refine ⟨DF _,by omega,?_⟩;rw [dt _ _ _ (by simp)];exact World.alloc_heap_new w _
 |some l₀=>
  obtain ⟨r₀,hr₀⟩:=hro l₀ rfl;exact main fn w.heap.size [] _ _ (mW fn a.tmps params assign body hr₀) (DF _) (by simp) (fun C hC=>dt _ _ _ hC) (World.alloc_heap_new w _) rfl rfl rfl (DF _) rfl rfl rfl rfl rfl rfl (by simp) (by simp)
theorem cZ (hC:bp P C) (hm:P.follows .mixedOrders=true) : ∀ (c:Code),codeOk P c=true->zF P C c
 | .skip,_=>by intro ro nd s rs e e' h h' x μ a w Q he hg hbe hbh S hf r hmk hsz hro hQ;simp only [codeA,DE,DO] at he;obtain ⟨rfl,rfl,rfl⟩:=he;exact wpIn_skip (hQ a w ⟨μ,rs,S,.bU,r,hmk⟩)
 | .region id ops d,hok=>by
   intro ro nd s rs e e' h h' x μ a w Q he hg hbe hbh S hf r hmk hsz hro hQ;simp only [codeOk] at hok;simp only [codeA] at he;split at he
   ·rename_i e1 h1 h2;cases he;cases d with
    |true=>exact lS hC hm hok h2 hg hbe hbh S hf r (fun a' w' hb=>hQ a' w' (hb.m hmk))
    |false=>exact vM hC hok (by simpa [regionA] using h2) hg hbe hbh S hf r (fun a' w' hb=>hQ a' w' (hb.m hmk))
   ·cases he
 | .seq b c,hok=>by
   intro ro nd s rs e e' h h' x μ a w Q he hg hbe hbh S hf r hmk hsz hro hQ;simp only [codeOk,DJ] at hok;simp only [codeA] at he;refine wpIn_seq ?_;split at he
   ·rename_i e1 h1 h2;have hgr:=bY hC b h2;have hgr2:=bY hC c he;refine cZ hC hm b hok.1 _ _ s rs _ _ _ _ _ _ _ _ _ h2 hg hbe hbh S (hf.first hgr2.1) r hmk hsz hro ?_;rintro a1 w1 ⟨μ1,rs1,hS,hSt,hr,hmk1⟩;exact cZ hC hm c hok.2 _ _ s rs1 _ _ _ _ _ _ _ _ _ he (by rw [hgr.2.1];exact hg) (dC hC b hok.1 hg hbe hbh h2).1 (dC hC b hok.1 hg hbe hbh h2).2 hS (hf.mL hSt) hr hmk1 (D5 hsz hSt.size) (hro.step hSt) (fun a' w' hb'=>hQ a' w' (hb'.trans hSt))
   ·rename_i hne;refine cZ hC hm b hok.1 _ _ s rs _ _ _ _ _ _ _ _ _ he hg hbe hbh S hf r hmk hsz hro ?_;intro a1 w1 hb1;have hq:=hQ a1 w1 hb1;cases x with
    |normal=>exact absurd he (hne _ _)
    |ret=>exact hq
    |exit i=>exact hq
 | .cond c x y,hok=>by
   intro ro nd s rs e e' h h' ex μ a w Q he hg hbe hbh S hf r hmk hsz hro hQ;simp only [codeOk,DJ] at hok;simp only [codeA] at he;have hv:=rU S hg r hok.1.1;split at he
   ·rename_i h1;rw [h1] at hv;exact wpIn_cond_true hv.bool (cZ hC hm x hok.1.2 _ _ s rs _ _ _ _ _ _ _ _ _ he hg hbe hbh S hf r hmk hsz hro hQ)
   ·rename_i h1;rw [h1] at hv;exact wpIn_cond_false hv.bool (cZ hC hm y hok.2 _ _ s rs _ _ _ _ _ _ _ _ _ he hg hbe hbh S hf r hmk hsz hro hQ)
   ·cases he
 | .block id b,hok=>by
   intro ro nd s rs e e' h h' x μ a w Q he hg hbe hbh S hf r hmk hsz hro hQ;simp only [codeOk] at hok;simp only [codeA] at he;refine wpIn_block ?_;split at he
   ·rename_i j e1 h1 h2;simp only [DE,DO] at he;obtain ⟨rfl,rfl,rfl⟩:=he;refine cZ hC hm b hok _ _ s rs _ _ _ _ _ _ _ _ _ h2 hg hbe hbh S hf r hmk hsz hro ?_;intro a' w' hb';have hq:=hQ a' w' hb';simp only [AP,Exit.inBlock];by_cases hj:j=id
    ·rw [DL hj] at hq |-;exact hq
    ·rw [DM hj] at hq |-;exact hq
   ·rename_i hne;refine cZ hC hm b hok _ _ s rs _ _ _ _ _ _ _ _ _ he hg hbe hbh S hf r hmk hsz hro ?_;intro a' w' hb';have hq:=hQ a' w' hb';cases x with
    |normal=>exact hq
    |ret=>exact hq
    |exit i=>exact absurd he (hne _ _ _)
 | .loop b,hok=>by intro ro nd s rs e e' h h' x μ a w Q he hg hbe hbh S hf r hmk hsz hro hQ;simp only [codeOk] at hok;simp only [codeA] at he;exact wpIn_loop_rounds _ (Bv hC (cZ hC hm b hok) (fun _ _ _ _ _ h1 h2 h3 h4=>dC hC b hok h1 h2 h3 h4) _ he hg hbe hbh S hf r hmk hsz hro hQ)
 | .exit i,_=>by intro ro nd s rs e e' h h' x μ a w Q he hg hbe hbh S hf r hmk hsz hro hQ;simp only [codeA,DE,DO] at he;obtain ⟨rfl,rfl,rfl⟩:=he;exact wpIn_exit (hQ a w ⟨μ,rs,S,.bU,r,hmk⟩)
 | .scope b,hok=>by intro ro nd s rs e e' h h' x μ a w Q he hg hbe hbh S hf r hmk hsz hro hQ;simp only [codeOk] at hok;simp only [codeA] at he;refine jN (cZ hC hm b hok _ _ s rs _ _ _ _ _ _ _ _ _ he hg hbe hbh S hf r hmk hsz hro ?_);intro a' w' hb';have hq:=hQ a' w' hb';cases x<;>exact hq
 | .label _,_=>by intro ro nd s rs e e' h h' x μ a w Q he hg hbe hbh S hf r hmk hsz hro hQ;simp only [codeA,DE,DO] at he;obtain ⟨rfl,rfl,rfl⟩:=he;exact wpIn_label (hQ a w ⟨μ,rs,S,.bU,r,hmk⟩)
 | .ret,_=>by intro ro nd s rs e e' h h' x μ a w Q he hg hbe hbh S hf r hmk hsz hro hQ;simp only [codeA,DE,DO] at he;obtain ⟨rfl,rfl,rfl⟩:=he;exact wpIn_ret (hQ a w ⟨μ,rs,S,.bU,r,hmk⟩)
 | .goto _,hok=>by simp [codeOk] at hok
 | .rangeFunc g params assign body,hok=>range_good hC hok
 | .refuse _,hok=>by simp [codeOk] at hok
theorem jg {rs:List ResultVar} {e:aW} {h h':ad} {v:Value} (he:resultsA P rs e h=some (v,h')):h'=h:=by
 unfold resultsA at he;split at he
 ·simp only [DQ,DO] at he;obtain ⟨_,_,_,rfl⟩:=he;rfl
 ·simp only [DQ,DO] at he;obtain ⟨_,_,_,rfl⟩:=he;rfl
def resV (tmps:Array Value):ResultVar->Sem Value
 | .tmp t=>pure (tmps.getD t undef)
 | .cell b t=>do loadVar t (<-asAddr (tmps.getD b undef))
theorem zD (fn:Func) (tmps:Array Value):results fn tmps=(do let vs <-fn.results.mapM (resV tmps);pure (if h:vs.size=1 then vs[0] else .tuple vs)):=rfl
theorem AW {D:List Deferred} {μ:Mu} {h:ad} {w:World} {e:aW} {a:Act} (S:cm μ h w) (r:gG D μ e a) {x:ResultVar} {v:Value} (hv:fj P x e h=some v) :
  ∃ v',(resV a.tmps x).run P w = .ok v' w/\aG μ v v':=by
 cases x with
 |tmp t=>
  simp only [fj,DE] at hv;subst hv;refine ⟨_,rfl,?_⟩;have:=r.1.getD t;simpa using this
 |cell b t=>
  simp only [fj,DQ] at hv;obtain ⟨⟨v1,h1⟩,hl,rfl⟩:=hv;have hr:aG μ (e.getD b undef) (a.tmps.getD b undef):=by have:=r.1.getD b;simpa using this
  obtain ⟨_,r',hrun,hv'⟩:=ld_sound S hr hl;refine ⟨r',?_,hv'⟩;simp only [resV,Instr.loadAt,Sem.run_bind] at hrun |-;cases hx:a.tmps.getD b undef with
  |pointer p=>
   rw [hx] at hrun;cases p with
   |none=>simp [Instr.sureAddr] at hrun
   |some q=>simpa [Instr.sureAddr,asAddr] using hrun
  |_=>rw [hx] at hrun;simp [Instr.sureAddr] at hrun
theorem mapM_rel {D:List Deferred} {μ:Mu} {h:ad} {w:World} {e:aW} {a:Act} (S:cm μ h w) (r:gG D μ e a) : ∀ {rs:List ResultVar} {vs:List Value},rs.mapM (fun r=>fj P r e h)=some vs ->
  ∃ vs',(rs.mapM (resV a.tmps)).run P w = .ok vs' w/\aP μ vs vs'
 | [],vs,hv=>by simp at hv;subst hv;exact ⟨[],by simp,aP.nil μ⟩
 |x::rs,vs,hv=>by rw [GO] at hv;simp only [bind,DZ,pure,DE] at hv;obtain ⟨v,hv1,vs1,hv2,rfl⟩:=hv;obtain ⟨v',h1,h2⟩:=AW S r hv1;obtain ⟨vs',h3,h4⟩:=mapM_rel S r hv2;refine ⟨v'::vs',?_,aP.cons h2 h4⟩;rw [GO,Sem.run_bind];rw [h1];simp only [Result.andThen_ok,Sem.run_bind];rw [h3];simp
theorem vT {α β:Type} {f:α->Option β} : ∀ {l:List α} {r:List β},l.mapM f=some r->l.length=r.length
 | [],r,h=>by simp at h;subst h;rfl
 |x::l,r,h=>by rw [GO] at h;simp only [bind,DZ,pure,DE] at h;obtain ⟨a,_,r1,h2,rfl⟩:=h;simp [vT h2]
theorem oT {D:List Deferred} {μ:Mu} {h h':ad} {w:World} {e:aW} {a:Act} (S:cm μ h w) (r:gG D μ e a) {fn:Func} {v:Value} (hv:resultsA P fn.results.toList e h=some (v,h')) :
  ∃ v',(results fn a.tmps).run P w = .ok v' w/\aG μ v v':=by
 have main : ∀ {vs:List Value},fn.results.toList.mapM (fun r=>fj P r e h)=some vs -> ∃ vs',(fn.results.mapM (resV a.tmps)).run P w = .ok vs'.toArray w/\aP μ vs vs':=by intro vs hvs;obtain ⟨vs',h1,h2⟩:=mapM_rel S r hvs;refine ⟨vs',?_,h2⟩;rw [Array.mapM_eq_mapM_toList,Sem.run_map,h1];rfl
 unfold resultsA at hv;split at hv
 ·rename_i x hx;simp only [DQ,DO] at hv;obtain ⟨v1,hv1,rfl,rfl⟩:=hv;obtain ⟨vs',h1,h2⟩:=main (vs := [v1]) (by rw [hx];simp [hv1]);have hl:=h2.1
  match vs',hl with
  | [v'],_=>
    refine ⟨v',?_,h2.head⟩;rw [zD,Sem.run_bind];rw [h1];simp
 ·rename_i hne;simp only [DQ,DO] at hv;obtain ⟨vs,hvs,rfl,rfl⟩:=hv;obtain ⟨vs',h1,h2⟩:=main hvs;refine ⟨.tuple vs'.toArray,?_,.cO h2⟩;rw [zD,Sem.run_bind];rw [h1];simp only [Result.andThen_ok,Sem.run_pure];have hlen:vs'.length≠1:=by rw [<-h2.1,<-vT hvs];intro h1';obtain ⟨x,hx⟩:=List.length_eq_one_iff.1 h1';exact hne x hx
  rw [dif_neg (by simpa using hlen)]
end code
end
def ab {α:Type} (r:aS) (k:Value->ad->Option α):Option α:=
 match r with
 |some (v,h)=>k v h
 |none=>none
def ai (g:Bool) (o:aS) (h:ad):aS:=
 match g with
 |true=>o
 |false=>some (undef,h)
def opsK {α:Type} (P:Program) (C:aj) (ops:Array Oper):List Oper->aW->ad->(aW->ad->Option α)->Option α
 | [],e,h,k=>k e h
 |o::cI,e,h,k=>
  match o.guard with
  |none=>ab (opA P C o (ev e) h) fun v h'=>opsK P C ops cI (putD e o.dst v) h' k
  |some (j,want)=>ab (ai (gV ops e j==some want) (opA P C o (ev e) h) h) fun v h'=>opsK P C ops cI (putD e o.dst v) h' k
theorem tQ {α:Type} (P:Program) (C:aj) (ops:Array Oper) : ∀ (l:List Oper) (e:aW) (h:ad) (k:aW->ad->Option α),
  opsK P C ops l e h k=match opsA P C ops l e h with|some (e',h')=>k e' h'|none=>none
 | [],e,h,k=>rfl
 |o::cI,e,h,k=>by
  unfold opsK opsA stepA iH ab;cases hg:o.guard with
  |none=>
   simp only [DY];cases opA P C o (ev e) h with
   |none=>rfl
   |some r=>exact tQ P C ops cI _ _ k
  |some g=>
   obtain ⟨j,want⟩:=g;simp only;by_cases hy:(gV ops e j==some want)=true
   ·simp only [hy,DY,ai];cases opA P C o (ev e) h with
    |none=>rfl
    |some r=>exact tQ P C ops cI _ _ k
   ·rw [DM hy];rw [HF] at hy;simp only [hy,ai];exact tQ P C ops cI _ _ k
theorem dW {α:Type} {l:List α} {x:α} {i:Nat}:(x,i)∈l.zipIdx↔l[i]? = some x:=by
 constructor
 ·intro h;obtain ⟨j,hj⟩:=JA h;rw [List.getElem?_zipIdx,DQ] at hj;obtain ⟨z,hz,he⟩:=hj;simp only [DO,DG] at he;obtain ⟨rfl,rfl⟩:=he;exact hz
 ·intro h;have:l.zipIdx[i]? = some (x,i):=by rw [List.getElem?_zipIdx,h];simp
  exact EY this
def Cg (P:Program) (ops:Array Oper) (l:List (Nat×Oper)):Bool:=
 let m:=gE ops
 l.zipIdx.all fun x => !(kindOf P x.1.2 == .read)||l.zipIdx.all fun y => !(hard P y.1.2 y.2 x.2)||fz m x.1.1 y.1.1||fz m y.1.1 x.1.1
theorem xO {P:Program} {C:aj} {ops:Array Oper} {l:List (Nat×Oper)} (ht:Cg P ops l=true) (tr:List Tr1) (hE:ad):dynOk P C ops l tr hE=true:=by
 unfold dynOk;unfold Cg at ht;simp only [DT,FH,FK,HT] at ht |-;intro x hx;by_cases hr:(kindOf P x.1.1.2 == .read&&x.1.2.sQ)=true
 ·right;obtain ⟨⟨x1,t⟩,i⟩:=x;have hx1:(x1,i)∈l.zipIdx:=by rw [dW] at hx |-;exact (HX.1 hx).1
  intro y hy;have hy1:=EW.1 hy;left;rcases ht (x1,i) hx1 with h1|h1
  ·rw [h1] at hr;simp at hr
  ·rcases h1 y hy1.1 with (h2|h2)|h2
   ·rw [hy1.2] at h2;cases h2
   ·exact .inl h2
   ·exact .inr h2
 ·left;cases h1:(kindOf P x.1.1.2 == .read) with
  |false=>simp
  |true=>rw [h1] at hr;simpa using hr
theorem ny {P:Program} {C:aj} {ops:Array Oper} : ∀ (l:List (Nat×Oper)) (e:aW) (h:ad),
  (traceA P C ops l e h).map (·.2)=opsA P C ops (l.map (·.2)) e h
 | [],e,h=>rfl
 | (i,o)::cI,e,h=>by
   simp only [traceA,FL,opsA,stepA];by_cases hw:iH ops o e=true
   ·rw [DL hw,DL hw];cases opA P C o (ev e) h with
    |none=>rfl
    |some r=>
     obtain ⟨v,h'⟩:=r;simp only;have:=ny (P:=P) (C:=C) (ops:=ops) cI (putD e o.dst v) h';rw [<-this];cases traceA P C ops cI (putD e o.dst v) h'<;>rfl
   ·rw [DM hw,DM hw];simp only;have:=ny (P:=P) (C:=C) (ops:=ops) cI (putD e o.dst undef) h;rw [<-this];cases traceA P C ops cI (putD e o.dst undef) h<;>rfl
def oU (P:Program) (ops:Array Oper):Bool:=sK P ops (late P ops)&&Cg P ops (late P ops)
def oV (P:Program) (ops:Array Oper) (l:List (Nat×Oper)):List (Nat×Nat):=
 let m:=gE ops
 (l.zipIdx.filter fun x=>kindOf P x.1.2 == .read).flatMap fun x=>
   (l.zipIdx.filter fun y=>hard P y.1.2 y.2 x.2 && !(fz m x.1.1 y.1.1||fz m y.1.1 x.1.1)).map fun y=>(x.2,y.2)
def bF (sQ:Bool) (r:aS) (v:Value):Bool := !sQ||same r v
def chkAt (P:Program) (C:aj) (l:List (Nat×Oper)) (tr:List Tr1) (hs:List ad) (x:Nat×Nat):Bool:=
 match l[x.1]?,tr[x.1]?,pA (tr.map (·.sQ)) hs (madeIn P l x) (if x.2<x.1 then x.2 else x.2+1) with
 |some y,some t,some h=>bF t.sQ (opA P C y.2 (ev t.e) h) t.v
 |some _,some t,none => !t.sQ
 |_,_,_=>false
def vy (P:Program) (C:aj) (ops:Array Oper) (l:List (Nat×Oper)) (tr:List Tr1) (hEnd:ad):Bool:=
 (oV P ops l).foldr (fun x acc=>chkAt P C l tr (tr.map (·.h) ++ [hEnd]) x&&acc) true
theorem Be {α:Type} (f:α->Bool) : ∀ l:List α,l.foldr (fun x acc=>f x&&acc) true=l.all f
 | []=>rfl
 |x::l=>by simp only [List.foldr_cons,List.all_cons,Be f l]
theorem dynChk_eq {P:Program} {C:aj} {ops:Array Oper} {l:List (Nat×Oper)} {tr:List Tr1} {hEnd:ad} (hlen:tr.length=l.length):vy P C ops l tr hEnd=dynOk P C ops l tr hEnd:=by
 unfold vy dynOk;rw [Be,HZ];simp only [DT];have hz : ∀ (x:Nat×Oper) (t:Tr1) (i:Nat),((x,t),i)∈(l.zip tr).zipIdx↔l[i]? = some x/\tr[i]? = some t:=by intro x t i;rw [dW,HX]
 constructor
 ·rintro h ⟨⟨x,t⟩,i⟩ hx;obtain ⟨hx1,hx2⟩:=(hz x t i).1 hx;simp only [FH,FK,HT,DT];by_cases hr:(kindOf P x.2 == .read)=true
  ·by_cases hran:t.sQ=true
   ·right;rintro ⟨y,j⟩ hy;rw [EW,dW] at hy;simp only at hy |-;by_cases hb:(fz (gE ops) x.1 y.1||fz (gE ops) y.1 x.1)=true
    ·left;simpa using hb
    ·right;have hp:(i,j)∈oV P ops l:=by unfold oV;simp only [GQ,EW,E2];exact ⟨(x,i),⟨dW.2 hx1,hr⟩,(y,j),⟨dW.2 hy.1,by simp only [hy.2,EE];simpa using hb⟩,rfl⟩
     have:=h _ hp;unfold chkAt at this;simp only [hx1,hx2] at this;split at this
     ·rename_i h1 h2 h3;cases h1;cases h2;rw [h3];simpa [bF,hran] using this
     ·rename_i h1 h2 h3;cases h2;rw [hran] at this;simp at this
     ·simp at this
   ·left;right;simpa using hran
  ·left;left;simpa using hr
 ·rintro h ⟨i,j⟩ hp;unfold oV at hp;simp only [GQ,EW,E2] at hp;obtain ⟨⟨x,i'⟩,⟨hx1,hr⟩,⟨y,j'⟩,⟨hy1,hy2⟩,he⟩:=hp;simp only [DO] at he;obtain ⟨rfl,rfl⟩:=he;rw [dW] at hx1 hy1;simp only [DJ] at hr hy2;have hi:i'<tr.length:=by rw [hlen];exact (EP.1 hx1).1
  have ht:tr[i']? = some tr[i']:=DC hi;have hq:=h ((x,tr[i']),i') ((hz _ _ _).2 ⟨hx1,ht⟩);simp only [hr,EE,FH,FK,DT] at hq;unfold chkAt;simp only [hx1,ht];have key:tr[i'].sQ=true->(match pA (tr.map (·.sQ)) (List.map (fun x=>x.h) tr ++ [hEnd]) (madeIn P l (i',j')) (if j'<i' then j' else j'+1) with|some h=>same (opA P C x.2 (ev tr[i'].e) h) tr[i'].v|none=>false)=true:=by
   intro hran;rcases hq with hq|hq
   ·rw [hran] at hq;cases hq
   ·have:=hq (y,j') (EW.2 ⟨dW.2 hy1,hy2.1⟩);simp only at this;have hy3:=hy2.2;rcases this with h1|h1
    ·have h1':(fz (gE ops) x.1 y.1||fz (gE ops) y.1 x.1)=true:=by simpa using h1
     simp [h1'] at hy3
    ·exact h1
  split
  ·rename_i h1 h2 h3;cases h1;cases h2;unfold bF;cases hran:tr[i'].sQ with
   |false=>rfl
   |true=>have:=key hran;rw [h3] at this;simpa using this
  ·rename_i h1 h2 h3;cases h2;cases hran:tr[i'].sQ with
   |false=>rfl
   |true=>have:=key hran;rw [h3] at this;simp at this
  ·rename_i h1 h2;cases hh:pA (tr.map (·.sQ)) (List.map (fun x=>x.h) tr ++ [hEnd]) (madeIn P l (i',j')) (if j'<i' then j' else j'+1) with
   |some hp'=>exact absurd hh (h1 _ _ _ rfl rfl)
   |none=>exact absurd hh (h2 _ _ rfl rfl)
def traceK {α:Type} (P:Program) (C:aj) (ops:Array Oper):List (Nat×Oper)->aW->ad->(List Tr1->aW->ad->Option α)->Option α
 | [],e,h,k=>k [] e h
 |x::cI,e,h,k=>
  match x.2.guard with
  |none=>ab (opA P C x.2 (ev e) h) fun v h'=>traceK P C ops cI (putD e x.2.dst v) h' fun tr=>k (⟨e,h,v,true⟩::tr)
  |some (j,want)=>ab (ai (gV ops e j==some want) (opA P C x.2 (ev e) h) h) fun v h'=>traceK P C ops cI (putD e x.2.dst v) h' fun tr=>k (⟨e,h,v,gV ops e j==some want⟩::tr)
theorem ql {α:Type} (P:Program) (C:aj) (ops:Array Oper) : ∀ (l:List (Nat×Oper)) (e:aW) (h:ad) (k:List Tr1->aW->ad->Option α),
  traceK P C ops l e h k=match traceA P C ops l e h with|some (tr,e',h')=>k tr e' h'|none=>none
 | [],e,h,k=>rfl
 | (i,o)::cI,e,h,k=>by
   unfold traceK traceA iH ab;simp only;cases hg:o.guard with
   |none=>
    simp only [DY];cases opA P C o (ev e) h with
    |none=>rfl
    |some r=>
     simp only;rw [ql P C ops cI];cases traceA P C ops cI (putD e o.dst r.1) r.2<;>rfl
   |some g=>
    obtain ⟨j,want⟩:=g;simp only;by_cases hy:(gV ops e j==some want)=true
    ·simp only [hy,DY,ai];cases opA P C o (ev e) h with
     |none=>rfl
     |some r=>
      simp only;rw [ql P C ops cI];cases traceA P C ops cI (putD e o.dst r.1) r.2<;>rfl
    ·rw [DM hy];rw [HF] at hy;simp only [hy,ai];rw [ql P C ops cI];cases traceA P C ops cI (putD e o.dst undef) h<;>rfl
theorem mf {P:Program} {C:aj} {ops:Array Oper} : ∀ {l:List (Nat×Oper)} {e e':aW} {h h':ad} {tr:List Tr1},traceA P C ops l e h=some (tr,e',h')->tr.length=l.length
 | [],e,e',h,h',tr,ht=>by simp only [traceA,DE,DO] at ht;rw [<-ht.1];rfl
 | (i,o)::cI,e,e',h,h',tr,ht=>by
   simp only [traceA] at ht;split at ht
   ·split at ht
    ·split at ht
     ·rename_i r h5;obtain ⟨e2,h2⟩:=r;simp only [DE,DO] at ht;obtain ⟨rfl,_⟩:=ht;simp [mf h5]
     ·cases ht
    ·cases ht
   ·split at ht
    ·rename_i r h5;obtain ⟨e2,h2⟩:=r;simp only [DE,DO] at ht;obtain ⟨rfl,_⟩:=ht;simp [mf h5]
    ·cases ht
def tt {α:Type} (P:Program) (C:aj) (ops:Array Oper) (draw:Bool) (e:aW) (h:ad) (k:aW->ad->Option α):Option α:=
 match draw with
 |false=>opsK P C ops ops.toList e h k
 |true=>
  match oU P ops with
  |true=>opsK P C ops ((late P ops).map (·.2)) e h k
  |false=>match sK P ops (late P ops) with
   |true=>traceK P C ops (late P ops) e h fun tr e' h'=>match vy P C ops (late P ops) tr h' with
    |true=>k e' h'
    |false=>none
   |false=>none
theorem regionK_eq {α:Type} (P:Program) (C:aj) (ops:Array Oper) (draw:Bool) (e:aW) (h:ad) (k:aW->ad->Option α) :
  tt P C ops draw e h k=match regionA P C ops draw e h with|some (e',h')=>k e' h'|none=>none:=by
 unfold tt;cases draw with
 |false=>simp only [tQ,regionA];rfl
 |true=>
  simp only;cases hl:oU P ops with
  |false=>
   simp only [ql,regionA,DY];cases hs:sK P ops (late P ops) with
   |false=>rfl
   |true=>
    simp only [DY];cases ht:traceA P C ops (late P ops) e h with
    |none=>rfl
    |some r=>
     obtain ⟨tr,e',h'⟩:=r;simp only;rw [dynChk_eq (mf ht)];cases dynOk P C ops (late P ops) tr h'<;>rfl
  |true=>
   simp only [oU,DJ] at hl;simp only [tQ,regionA,DY,hl.1,<-ny];cases ht:traceA P C ops (late P ops) e h with
   |none=>rfl
   |some r=>
    obtain ⟨tr,e',h'⟩:=r;simp [xO hl.2]
def codeK {α:Type} (P:Program) (C:aj):Code->aW->ad->(aW->ad->Option α)->(aW->ad->Option α)->(Nat->aW->ad->Option α)->Option α
 | .skip,e,h,n,_,_=>n e h
 | .region _ ops draw,e,h,n,_,_=>tt P C ops draw e h n
 | .seq a b,e,h,n,r,x=>codeK P C a e h (fun e' h'=>codeK P C b e' h' n r x) r x
 | .cond c a b,e,h,n,r,x=>match ev e c with
   | .bool true=>codeK P C a e h n r x
   | .bool false=>codeK P C b e h n r x
   |_=>none
 | .block id b,e,h,n,r,x=>codeK P C b e h n r (fun i e' h'=>if i=id then n e' h' else x i e' h')
 | .loop b,e,h,_,r,x=>match iter (codeA P C b) aB e h with
   |some (.ret,e',h')=>r e' h'
   |some (.exit i,e',h')=>x i e' h'
   |_=>none
 | .exit i,e,h,_,_,x=>x i e h
 | .scope b,e,h,n,r,x=>codeK P C b e h n r x
 | .label _,e,h,n,_,_=>n e h
 | .ret,e,h,_,r,_=>r e h
 | .goto _,_,_,_,_,_=>none
 | .rangeFunc g ps a b,e,h,n,r,x=>match codeA P C (.rangeFunc g ps a b) e h with
   |some (.normal,e',h')=>n e' h'
   |some (.ret,e',h')=>r e' h'
   |some (.exit i,e',h')=>x i e' h'
   |none=>none
 | .refuse _,_,_,_,_,_=>none
theorem oz {step:aW->ad->Option (Ex×aW×ad)} : ∀ (n:Nat) (e:aW) (h:ad) {e':aW} {h':ad},iter step n e h≠some (.normal,e',h')
 | 0,_,_,_,_=>by simp [iter]
 |n+1,e,h,e',h'=>by
  unfold iter;split
  ·exact oz n _ _
  ·rename_i hne;exact hne e' h'
def endK {α:Type} (n r:aW->ad->Option α) (x:Nat->aW->ad->Option α):Option (Ex×aW×ad)->Option α
 |some (.normal,e,h)=>n e h
 |some (.ret,e,h)=>r e h
 |some (.exit i,e,h)=>x i e h
 |none=>none
theorem jx {α:Type} (P:Program) (C:aj) : ∀ (c:Code) (e:aW) (h:ad) (n r:aW->ad->Option α) (x:Nat->aW->ad->Option α),
  codeK P C c e h n r x=endK n r x (codeA P C c e h)
 | .skip,e,h,n,r,x=>rfl
 | .region id ops d,e,h,n,r,x=>by simp only [codeK,codeA,regionK_eq];cases regionA P C ops d e h<;>rfl
 | .seq a b,e,h,n,r,x=>by
   simp only [codeK,codeA];rw [jx P C a];cases ha:codeA P C a e h with
   |none=>rfl
   |some y=>
    obtain ⟨ex,e',h'⟩:=y;cases ex with
    |normal=>simp only [endK];exact jx P C b _ _ _ _ _
    |ret=>rfl
    |exit i=>rfl
 | .cond c a b,e,h,n,r,x=>by
   simp only [codeK,codeA];generalize ev e c=v;cases v with
   |bool t=>
    cases t with
    |true=>exact jx P C a _ _ _ _ _
    |false=>exact jx P C b _ _ _ _ _
   |_=>rfl
 | .block id b,e,h,n,r,x=>by
   simp only [codeK,codeA];rw [jx P C b];cases hb:codeA P C b e h with
   |none=>rfl
   |some y=>
    obtain ⟨ex,e',h'⟩:=y;cases ex with
    |normal=>rfl
    |ret=>rfl
    |exit i=>
     simp only [endK];by_cases hi:i=id
     ·simp [hi]
     ·simp [hi]
 | .loop b,e,h,n,r,x=>by
   simp only [codeK,codeA];cases hb:iter (codeA P C b) aB e h with
   |none=>rfl
   |some y=>
    obtain ⟨ex,e',h'⟩:=y;cases ex with
    |normal=>exact absurd hb (oz _ _ _)
    |ret=>rfl
    |exit i=>rfl
 | .exit i,e,h,n,r,x=>rfl
 | .scope b,e,h,n,r,x=>by simp only [codeK,codeA];exact jx P C b _ _ _ _ _
 | .label _,e,h,n,r,x=>rfl
 | .ret,e,h,n,r,x=>rfl
 | .goto _,e,h,n,r,x=>rfl
 | .rangeFunc g ps a b,e,h,n,r,x=>by
   simp only [codeK];cases codeA P C (.rangeFunc g ps a b) e h with
   |none=>rfl
   |some y=>obtain ⟨ex,e',h'⟩:=y;cases ex<;>rfl
 | .refuse _,e,h,n,r,x=>rfl
def ba (P:Program) (C:aj) (fn:Func) (args:List Value) (h:ad):aS:=
 match fn.body with
 |none=>none
 |some c=>codeK P C c (args++List.replicate (fn.ntmps-args.length) undef) h (resultsA P fn.results.toList) (resultsA P fn.results.toList) (fun _ _ _=>none)
theorem bodyK_eq (P:Program) (C:aj) (fn:Func) (args:List Value) (h:ad):ba P C fn args h=bodyA P C fn args h:=by
 unfold ba bodyA;cases fn.body with
 |none=>rfl
 |some c=>
  simp only [jx];cases codeA P C c (args++List.replicate (fn.ntmps-args.length) undef) h with
  |none=>rfl
  |some y=>
   obtain ⟨ex,e',h'⟩:=y;cases ex<;>rfl
def roundK (P:Program) (C:aj) (b:Code) (e:aW) (h:ad):Option (Ex×aW×ad):=
 codeK P C b e h (fun e h=>some (.normal,e,h)) (fun e h=>some (.ret,e,h)) (fun i e h=>some (.exit i,e,h))
theorem roundK_eq (P:Program) (C:aj) (b:Code) (e:aW) (h:ad):roundK P C b e h=codeA P C b e h:=by
 unfold roundK;rw [jx];cases codeA P C b e h with
 |none=>rfl
 |some y=>
  obtain ⟨ex,e',h'⟩:=y;cases ex<;>rfl
theorem cm.shut {μ:Mu} {h:ad} {w:World} (S:cm μ h w) {r:Nat} {x:Option (List Deferred)} (hr:w.heap[r]? = some (Obj.deferred x)) (o:Obj):cm μ h (w.putObj r o):=by
 have key : ∀ {B:Nat} {ob:Obj},w.heap[B]? = some ob->(∀ y,ob ≠ .deferred y)->(w.putObj r o).heap[B]? = some ob:=by intro B ob hB hne;rw [World.putObj_heap_other (by rintro rfl;rw [hr] at hB;cases hB;exact hne _ rfl)];exact hB
 refine ⟨?_,?_,?_,S.inj,by simpa using S.size,S.low⟩
 ·intro b cs hb hc;obtain ⟨L,a,T,f,h1,h2,h3,h4,h5⟩:=S.old b cs hb hc;exact ⟨L,a,T,f,h1,h2,h3,key h4 (by intro y hy;cases hy),h5⟩
 ·intro b k hb hg;obtain ⟨L,a,T,f,h1,h2,h4,h5⟩:=S.new b k hb hg;exact ⟨L,a,T,f,h1,h2,key h4 (by intro y hy;cases hy),h5⟩
 ·intro b ob hb hg;obtain ⟨L,ob',h1,h2,h3,h4⟩:=S.obj b ob hb hg;refine ⟨L,ob',h1,key h2 ?_,h3,h4⟩;rintro y rfl;cases ob<;>exact h3
theorem nN {P:Program} {nd:Nat} {fn:Func} {a:Act} {R:Ending->World->Prop} {μ μ0:Mu} {h h0:ad} {w0:World} :
  ∀ (rs:List Nat) {w:World},cm μ h w->cd μ0 h0 w0 μ h w->kv w0.heap.size μ h w rs ->
  (∀ w,cm μ h w->cd μ0 h0 w0 μ h w -> ∃ v,(results fn a.tmps).run P w = .ok v w/\R (.returned v) w) ->
  LeavesInM (Fr none) nd P fn a.tmps R (dq rs) .returning w
 | [],w,S,St,m,hR=>hR w S St
 |r::rs,w,S,St,m,hR=>by
  obtain ⟨h1,h2,h3⟩:=m.fA r (by simp);have hd:=List.nodup_cons.1 m.dup;refine ⟨by simp,.inl ⟨r,_,rfl,run_takeDeferred h2,?_⟩⟩;refine nN rs (S.shut h2 _) ?_ ⟨hd.2,?_⟩ hR
  ·refine ⟨St.ext,St.n0,St.old,St.next,St.os,St.tape,St.output,by simpa using St.size,?_,St.own,?_,St.drawn⟩
   ·intro B hB hO;rw [World.putObj_heap_other (by omega)];exact St.same B hB hO
   ·intro B q hB;obtain ⟨q',hq⟩:=St.loops B q hB;have:=(DX.1 hB).1;exact ⟨q',by rw [World.putObj_heap_other (by omega)];exact hq⟩
  ·intro q hq;obtain ⟨k1,k2,k3⟩:=m.fA q (by simp [hq]);refine ⟨k1,?_,k3⟩;rw [World.putObj_heap_other (by rintro rfl;exact hd.1 hq)];exact k2
theorem yi {P:Program} {C:aj} (hC:bp P C) (hm:P.follows .mixedOrders=true) {f:FuncId} {fn:Func} {c:Code} (hf:P.funcs[f]? = some fn) (hb:fn.body=some c) (hok:codeOk P c=true)
  {args:List Value} {h h':ad} {v:Value} (he:bodyA P C fn args h=some (v,h')) (hg:P.globals.size<=h.n0) (hba:cL h.next args=true) (hbh:aI h)
  {μ:Mu} {w:World} {args':List Value} (S:cm μ h w) (hfr:fh μ h h') (r:aP μ args args') :
  Calls P f args'.toArray w (mP μ h w v h'):=by
 unfold bodyA at he;rw [hb] at he;simp only at he;refine fr_calls (r:=none) (n:=0) (callsIn_of_wp_marks hf hb trivial ?_ rfl);have hbe:cL h.next (args++List.replicate (fn.ntmps-args.length) undef)=true:=
  bV hba (dH.2 fun x hx=>by rw [F6 hx];rfl)
 have her:gG (dq []) μ (args++List.replicate (fn.ntmps-args.length) undef) { tmps:=args'.toArray++Array.replicate (fn.ntmps-args'.toArray.size) undef,defers := [] }:=by refine ⟨?_,rfl⟩;have h1:args.length=args'.length:=r.1;simp only [FY,Array.toList_replicate,FI];rw [h1];exact r.append (aP.replicate μ _ (aG.undef μ))
 cases hc:codeA P C c (args++List.replicate (fn.ntmps-args.length) undef) h with
 |none=>rw [hc] at he;cases he
 |some y=>
  obtain ⟨ex,e1,h1⟩:=y;rw [hc] at he;have hgrow:resultsA P fn.results.toList e1 h1=some (v,h'):=by
   cases ex with
   |normal=>exact he
   |ret=>exact he
   |exit i=>cases he
  obtain rfl:=jg hgrow;refine cZ hC hm c hok none 0 w.heap.size [] _ _ _ _ _ _ _ _ _ hc hg hbe hbh S hfr her ⟨by simp,by simp⟩ (DF _) (fun l hl=>by cases hl) ?_;rintro a' w' ⟨μ',rs,hS,hSt,hr,hmk⟩;have fin:=nN (P:=P) (nd:=0) (fn:=fn) (a:=a') (R:=mP μ h w v h') rs hS hSt hmk (fun w2 S2 St2=>by obtain ⟨v',h3,h4⟩:=oT (P:=P) (w:=w2) S2 hr hgrow;exact ⟨v',h3,μ',v',rfl,S2,St2,h4⟩)
  have hd:a'.defers=dq rs:=hr.2;cases ex with
  |normal=>simp only [AP,bodyPostM,hd];exact fin
  |ret=>simp only [AP,bodyPostM,hd];exact fin
  |exit i=>cases he
theorem sn {μ:Mu} : ∀ {e e':List Value} (ps:List Tmp) {xs ys:List Value},aP μ e e'->aP μ xs ys->aP μ (eQ e (ps.zip xs)) ((ps.zip ys).foldl (fun (t:List Value) (p:Tmp×Value)=>t.set p.1 p.2) e')
 |e,e',[],xs,ys,he,hx=>he
 |e,e',p::ps,[],[],he,hx=>he
 |e,e',p::ps,[],_::_,he,hx=>by have:=hx.1;simp at this
 |e,e',p::ps,_::_,[],he,hx=>by have:=hx.1;simp at this
 |e,e',p::ps,x::xs,y::ys,he,hx=>by simp only [List.zip_cons_cons,eQ,List.foldl_cons];exact sn ps (he.set p hx.head) hx.tail
theorem vY (ps:Array Tmp) (ys:List Value) (t:Array Value):((ps.zip ys.toArray).foldl (fun tmps (p:Tmp×Value)=>tmps.setIfInBounds p.1 p.2) t).toList=(ps.toList.zip ys).foldl (fun (t:List Value) (p:Tmp×Value)=>t.set p.1 p.2) t.toList:=by
 rw [<-Array.foldl_toList,Array.toList_zip];simp only;generalize ps.toList.zip ys=l;induction l generalizing t with
 |nil=>rfl
 |cons p l ih=>simp only [List.foldl_cons];rw [ih];simp
theorem qi {n:Nat} : ∀ {e:aW} (ps:List Tmp) {xs:List Value},cL n e=true->cL n xs=true->cL n (eQ e (ps.zip xs))=true
 |e,[],xs,he,hx=>he
 |e,p::ps,[],he,hx=>he
 |e,p::ps,x::xs,he,hx=>by simp only [cL,DJ] at hx;exact qi ps (bdL_set he hx.1) hx.2
theorem lI {P:Program} {C:aj} {l:Nat} {args:List Value} {h h':ad} {v:Value} (he:roundA P C l args h=some (v,h')) :
  ∃ st p0 t0 q0 assign body e1 h1 p1 t1 q1 a1 b1 x e2 h2,h.getB l=some (.obj (.loop st p0 t0 q0 assign body))/\args.length=q0.length/\codeOk P assign=true/\codeOk P body=true /\
    codeA P C assign (eQ t0 (q0.zip args)) h=some (.normal,e1,h1)/\h1.getB l=some (.obj (.loop .ready p1 t1 q1 a1 b1)) /\
    codeA P C body e1 (h1.setO l (.loop .busy p1 t1 q1 a1 b1))=some (x,e2,h2)/\eN l x h2=some (v,h'):=by
 unfold roundA at he;split at he
 ·rename_i st p0 t0 q0 assign body hg;split at he
  ·rename_i hc;split at he
   ·rename_i e1 h1 hca;split at he
    ·rename_i p1 t1 q1 a1 b1 hg1;split at he
     ·rename_i x e2 h2 hcb;exact ⟨st,p0,t0,q0,assign,body,e1,h1,p1,t1,q1,a1,b1,x,e2,h2,hg,hc.1,hc.2.1,hc.2.2,hca,hg1,hcb,he⟩
     ·cases he
    ·cases he
   ·cases he
  ·cases he
 ·cases he
theorem iF {l:Nat} {x:Ex} {h h':ad} {v:Value} (he:eN l x h=some (v,h')) :
  ∃ st p t q a b,h.getB l=some (.obj (.loop st p t q a b))/\v = .bool (x == .normal)/\h'=h.setO l (.loop (if x = .normal then .ready else .done) (if x = .normal then none else some x) t q a b):=by
 unfold eN at he;split at he
 ·rename_i st p t q a b hg;cases he;exact ⟨st,p,t,q,a,b,hg,rfl,rfl⟩
 ·cases he
theorem wy {P:Program} {C:aj} (hC:bp P C) {l:Nat} {args:List Value} {h h':ad} {v:Value} (he:roundA P C l args h=some (v,h')):bC h h':=by obtain ⟨st,p0,t0,q0,assign,body,e1,h1,p1,t1,q1,a1,b1,x,e2,h2,hg,hlen,ho1,ho2,hca,hg1,hcb,hend⟩:=lI he;obtain ⟨_,_,_,_,_,_,_,_,rfl⟩:=iF hend;exact (((bY hC _ hca).trans (bC.setO _ _ _)).trans (bY hC _ hcb)).trans (bC.setO _ _ _)
theorem Bn {P:Program} {C:aj} (hC:bp P C) {l:Nat} {args:List Value} {h h':ad} {v:Value} (he:roundA P C l args h=some (v,h')) (hgl:P.globals.size<=h.n0) (hba:cL h.next args=true) (hbh:aI h) :
  bW h'.next v=true/\aI h':=by
 obtain ⟨st,p0,t0,q0,assign,body,e1,h1,p1,t1,q1,a1,b1,x,e2,h2,hg,hlen,ho1,ho2,hca,hg1,hcb,hend⟩:=lI he;obtain ⟨_,_,_,_,_,_,hg2,rfl,rfl⟩:=iF hend;have hg1':=bY hC _ hca;obtain ⟨k1,k2⟩:=dC hC _ ho1 hgl (qi q0 (hbh.obj _ _ hg) hba) hbh hca;have hob1:=k2.obj _ _ hg1;obtain ⟨k3,k4⟩:=dC hC _ ho2 (h:=h1.setO l (.loop .busy p1 t1 q1 a1 b1)) (by rw [ad.Di,hg1'.2.1];exact hgl) (by simpa using k1) (k2.setO (h1.bE hg1) hg1 hob1) hcb;have hob2:=k4.obj _ _ hg2;exact ⟨rfl,k4.setO (h2.bE hg2) hg2 hob2⟩
theorem wH {P:Program} {C:aj} (hC:bp P C) (hm:P.follows .mixedOrders=true) {l:Nat} {args:List Value} {h h':ad} {v:Value} (he:roundA P C l args h=some (v,h')) (hgl:P.globals.size<=h.n0)
  (hba:cL h.next args=true) (hbh:aI h) {μ:Mu} {w:World} {args':List Value} {L:xK} (S:cm μ h w) (hfr:fh μ h h') (r:aP μ args args') (hL:μ l=some L) :
  ∃ fn tmps assign body,(Instr.yield L.blk args'.toArray).run P w = .ok (.round L.blk fn tmps assign body) w /\ ∀ n,RoundIn (Fr none) n P L.blk fn tmps assign body w (mP μ h w v h'):=by
 obtain ⟨st,p0,t0,q0,assign,body,e1,h1,p1,t1,q1,a1,b1,x,e2,h2,hg,hlen,ho1,ho2,hca,hg1,hcb,hend⟩:=lI he;obtain ⟨s3,p3,t3,q3,a3,b3,hg3,rfl,rfl⟩:=iF hend;have gr1:=bY hC _ hca;have gr2:=bY hC _ hcb;have gr2n:h1.next<=h2.next:=by have:=gr2.1;simpa using this
 obtain ⟨L0,ob,g1,g2,g3,g4,g5⟩:=S.obj l _ (h.bE hg) hg;rw [hL] at g1;cases g1;cases ob with
 |loop R=>
  obtain ⟨k1,k2,k3,k4,k5,k6⟩:=g3;have hsz:args'.toArray.size=R.params.size:=by have h5:=r.1;have h6:R.params.toList.length=R.params.size:=Array.length_toList;rw [k4] at h6;simp only [FI];omega
  refine ⟨R.fn,_,R.assign,R.body,run_yield g2 hsz,fun n => ?_⟩;rw [k5,k6];have hbe:=qi q0 (hbh.obj _ _ hg) hba;obtain ⟨bd1,bd2⟩:=dC hC _ ho1 hgl hbe hbh hca;have hob1:=bd2.obj _ _ hg1;have hfr' : ∀ b,h.next<=b->b<h2.next->μ b=none:=fun b h5 h6=>hfr b h5 h6;refine roundIn_of_wpIn (F:=Fr none) trivial ?_;refine cZ hC hm assign ho1 (some L.blk) n w.heap.size [] _ _ _ _ _ _ _ _ _ hca hgl hbe hbh S (fun b h5 h6=>hfr' b h5 (by omega)) ?_ ⟨by simp,by simp⟩ (DF _) (fun l' hl'=>by cases hl';exact ⟨R,g2⟩) ?_
  ·refine ⟨?_,rfl⟩;have hfe:=vY R.params args' R.tmps;have hp:=sn q0 k3 r;rw [<-k4] at hp |-;rw [<-hfe] at hp;exact hp
  ·rintro a' w1 ⟨μ1,rs1,S1,St1,er1,mk1⟩;have hμ1:μ1 l=some L:=St1.mono (fun b h5 h6=>hfr' b h5 (by omega)) _ _ hL;obtain ⟨L1,ob1,j1,j2,j3,j4,j5⟩:=S1.obj l _ (h1.bE hg1) hg1;rw [hμ1] at j1;cases j1;cases ob1 with
   |loop R1=>
    obtain ⟨m1,m2,m3,m4,m5,m6⟩:=j3;refine ⟨_,run_beginRound j2 m1,?_⟩;obtain ⟨S2,St2⟩:=S1.setO (o' := .loop .busy p1 t1 q1 a1 b1) (ob' := .loop { R1 with state := .busy }) hg1 hμ1 ⟨rfl,m2,m3,m4,m5,m6⟩;refine cZ hC hm body ho2 (some L.blk) n w.heap.size rs1 _ _ _ _ _ _ _ _ _ hcb (by rw [ad.Di,gr1.2.1];exact hgl) (by simpa using bd1) (bd2.setO (h1.bE hg1) hg1 hob1) S2 ?_ er1 (mk1.step St2) ?_ ?_ ?_
    ·intro b h5 h6;rw [St1.ext b (.inr (by simpa using h5))];have:=gr1.1;exact hfr' b (by simp at h5;omega) h6
    ·have:=St1.size;simpa using this
    ·intro l' hl';cases hl';exact ⟨_,World.putObj_heap_same (DX.1 j2).1⟩
    ·rintro a'' w3 ⟨μ3,rs3,S3,St3,er3,mk3⟩;have StA:=(St1.trans St2).trans St3;have hμ3:μ3 l=some L:=StA.mono (fun b h5 h6=>hfr' b h5 h6) _ _ hL;obtain ⟨L3,ob3,n1,n2,n3,n4,n5⟩:=S3.obj l _ (h2.bE hg3) hg3;rw [hμ3] at n1;cases n1;cases ob3 with
     |loop R3=>
      obtain ⟨o1,o2,o3,o4,o5,o6⟩:=n3;have fin : ∀ (j:Option Code),j=(if x = .normal then none else some (Cw x)) -> ∃ v w',(Instr.endRound L.blk j).run P w3 = .ok v w'/\mP μ h w (.bool (x == .normal)) (h2.setO l (.loop (if x = .normal then .ready else .done) (if x = .normal then none else some x) t3 q3 a3 b3)) (.returned v) w':=by
       intro j hj;refine ⟨_,_,run_endRound j n2,?_⟩;obtain ⟨S4,St4⟩:=S3.setO (o' := .loop (if x = .normal then .ready else .done) (if x = .normal then none else some x) t3 q3 a3 b3)
        (ob' := .loop { R3 with state:=if j.isNone then .ready else .done,pending:=j }) hg3 hμ3 (by
         refine ⟨?_,?_,o3,o4,o5,o6⟩
         ·subst hj;by_cases hx:x = .normal<;>simp [hx]
         ·subst hj;by_cases hx:x = .normal<;>simp [hx])
       refine ⟨μ3,_,rfl,S4,StA.trans St4,?_⟩;have:j.isNone=(x == .normal):=by subst hj;by_cases hx:x = .normal<;>simp [hx]
       rw [this];exact .flat rfl
      cases x with
      |normal=>exact fin none rfl
      |ret=>exact fin (some .ret) rfl
      |exit i=>exact fin (some (.exit i)) rfl
     |_=>exact n3.elim
   |_=>exact j3.elim
 |_=>exact g3.elim
def renF (r:Nat->Nat):Fn->Fn
 | .yield l => .yield (r l)
 |f=>f
mutual
def eI (r:Nat->Nat):Value->Value
 | .pointer (some a) => .pointer (some ⟨r a.block,a.off,a.spot⟩)
 | .slice (some a) l c => .slice (some ⟨r a.block,a.off,a.spot⟩) l c
 | .agg ⟨l⟩ => .agg ⟨nQ r l⟩
 | .tuple ⟨l⟩ => .tuple ⟨nQ r l⟩
 | .map (some b) => .map (some (r b))
 | .func f ⟨a⟩ ⟨b⟩ => .func (renF r f) ⟨nQ r a⟩ ⟨nQ r b⟩
 | .iface t v => .iface t (eI r v)
 |v=>v
def nQ (r:Nat->Nat):List Value->List Value
 | [] => []
 |x::l=>eI r x::nQ r l
end
theorem zA (r:Nat->Nat) : ∀ l,nQ r l=l.map (eI r)
 | []=>rfl
 |x::l=>by simp [nQ,zA r l]
theorem flat_ren (r:Nat->Nat) (v:Value) (h:flat (eI r v)=true):flat v=true/\eI r v=v:=by
 cases v with
 |pointer p=>cases p with
  |none=>exact ⟨rfl,rfl⟩
  |some a=>simp [eI,flat] at h
 |slice p l c=>cases p with
  |none=>exact ⟨rfl,rfl⟩
  |some a=>simp [eI,flat] at h
 |agg a=>obtain ⟨l⟩:=a;simp [eI,flat] at h
 |tuple a=>obtain ⟨l⟩:=a;simp [eI,flat] at h
 |func f a b=>
  obtain ⟨a⟩:=a;obtain ⟨b⟩:=b;cases f with
  |func i=>
   simp only [eI,renF,flat,DJ,List.isEmpty_toArray,List.isEmpty_iff,zA,GX] at h;obtain ⟨rfl,rfl⟩:=h;exact ⟨rfl,rfl⟩
  |_=>simp [eI,renF,flat] at h
 |map m=>cases m with
  |none=>exact ⟨rfl,rfl⟩
  |some b=>simp [eI,flat] at h
 |iface t v=>simp [eI,flat] at h
 |_=>exact ⟨h,rfl⟩
mutual
theorem aG.rZ {μ:Mu} {r:Nat->Nat} : ∀ (v:Value) {v':Value},aG μ (eI r v) v'->aG (fun b=>μ (r b)) v v'
 | .pointer none,v',h=>by have:=h.bK rfl;subst this;exact .flat rfl
 | .pointer (some ⟨b,o,s⟩),v',h=>by
   simp only [eI] at h;cases h with
   |flat h=>simp [flat] at h
   |ptr h=>exact .ptr h
 | .slice none l c,v',h=>by have:=h.bK rfl;subst this;exact .flat rfl
 | .slice (some ⟨b,o,s⟩) l c,v',h=>by
   simp only [eI] at h;cases h with
   |flat h=>simp [flat] at h
   |slice h=>exact .slice h
   |vq h a b c d e=>exact .vq h a b c d e
   |iX h=>exact .iX h
   |yt=>exact .yt
 | .agg ⟨l⟩,v',h=>by simp only [eI] at h;obtain ⟨ys,rfl,hl⟩:=h.xl;exact .fS (aP.om l hl)
 | .tuple ⟨l⟩,v',h=>by simp only [eI] at h;obtain ⟨ys,rfl,hl⟩:=h.BT;exact .cO (aP.om l hl)
 | .func f ⟨a⟩ ⟨b⟩,v',h=>by
   by_cases hf:flat (eI r (.func f ⟨a⟩ ⟨b⟩))=true
   ·obtain ⟨h1,h2⟩:=flat_ren r _ hf;have h3:=h.bK hf;rw [h2] at h3;subst h3;exact .flat h1
   ·simp only [eI] at h hf;cases h with
    |flat h=>exact absurd h hf
    | @func _ g _ ys _ zs hfr h1 h2 h3 h4=>
      have q1:aP μ (nQ r a) ys.toList:=⟨by simpa using h1,fun i x y hx hy=>h2 i x y (by simpa using hx) (by simpa using hy)⟩
      have q2:aP μ (nQ r b) zs.toList:=⟨by simpa using h3,fun i x y hx hy=>h4 i x y (by simpa using hx) (by simpa using hy)⟩
      have p1:=aP.om a q1;have p2:=aP.om b q2;refine .func ?_ (by simpa using p1.1) (fun i x y hx hy=>p1.2 i x y (by simpa using hx) (by simpa using hy)) (by simpa using p2.1) (fun i x y hx hy=>p2.2 i x y (by simpa using hx) (by simpa using hy));cases f with
      |yield l=>exact hfr
      |_=>exact hfr
 | .iface t v,v',h=>by
   simp only [eI] at h;cases h with
   |flat h=>simp [flat] at h
   |iface h=>exact .iface (aG.rZ v h)
 | .bool _,v',h=>by have:=h.bK rfl;subst this;exact .flat rfl
 | .int _ _,v',h=>by have:=h.bK rfl;subst this;exact .flat rfl
 | .float _ _,v',h=>by have:=h.bK rfl;subst this;exact .flat rfl
 | .complex _ _ _,v',h=>by have:=h.bK rfl;subst this;exact .flat rfl
 | .string _,v',h=>by have:=h.bK rfl;subst this;exact .flat rfl
 | .map none,v',h=>by have:=h.bK rfl;subst this;exact .flat rfl
 | .map (some _),v',h=>by
   simp only [eI] at h;cases h with
   |flat h=>simp [flat] at h
   |map h=>exact .map h
 | .chan none,v',h=>by have:=h.bK rfl;subst this;exact .flat rfl
 | .chan (some _),v',h=>by
   simp only [eI] at h;cases h with
   |flat h=>simp [flat] at h
 | .nilFunc,v',h=>by have:=h.bK rfl;subst this;exact .flat rfl
 | .nilIface,v',h=>by have:=h.bK rfl;subst this;exact .flat rfl
theorem aP.om {μ:Mu} {r:Nat->Nat} : ∀ (l:List Value) {l':List Value},aP μ (nQ r l) l'->aP (fun b=>μ (r b)) l l'
 | [],l',h=>by have:=h.1;simp only [nQ,List.length_nil] at this;obtain rfl:=GB this.symm;exact aP.nil _
 |x::l,l',h=>by
  simp only [nQ] at h
  match l',h with
  | [],h=>have:=h.1;simp at this
  |y::l',h=>exact .cons (aG.rZ x h.head) (aP.om l h.tail)
end
mutual
theorem qp {r:Nat->Nat} {n:Nat} (hr : ∀ b,b<n->r b=b) : ∀ (v:Value),bW n v=true->eI r v=v
 | .pointer none,_=>rfl
 | .pointer (some ⟨b,o,s⟩),h=>by simp only [bW,DR] at h;simp only [eI,hr b h]
 | .slice none l c,_=>rfl
 | .slice (some ⟨b,o,s⟩) l c,h=>by simp only [bW,DR] at h;simp only [eI,hr b h]
 | .agg ⟨l⟩,h=>by simp only [eI];rw [lz hr l h]
 | .tuple ⟨l⟩,h=>by simp only [eI];rw [lz hr l h]
 | .func f ⟨a⟩ ⟨b⟩,h=>by
   simp only [bW,DJ] at h;simp only [eI];rw [lz hr a h.2.1,lz hr b h.2.2];cases f with
   |yield l=>simp only [bdF,DR] at h;simp only [renF,hr l h.1]
   |_=>rfl
 | .iface t v,h=>by simp only [bW] at h;simp only [eI];rw [qp hr v h]
 | .bool _,_=>rfl
 | .int _ _,_=>rfl
 | .float _ _,_=>rfl
 | .complex _ _ _,_=>rfl
 | .string _,_=>rfl
 | .map none,_=>rfl
 | .map (some b),h=>by simp only [bW,DR] at h;simp only [eI,hr b h]
 | .chan _,_=>rfl
 | .nilFunc,_=>rfl
 | .nilIface,_=>rfl
theorem lz {r:Nat->Nat} {n:Nat} (hr : ∀ b,b<n->r b=b) : ∀ (l:List Value),cL n l=true->nQ r l=l
 | [],_=>rfl
 |x::l,h=>by simp only [cL,DJ] at h;simp only [nQ];rw [qp hr x h.1,lz hr l h.2]
end
def renO (r:Nat->Nat):fu->fu
 | .map es c => .map (es.map fun x=>(eI r x.1,eI r x.2.1,x.2.2)) c
 | .iter m a b c => .iter (m.map r) a b c
 | .loop st p t q a b => .loop st p (nQ r t) q a b
def renB (r:Nat->Nat):BB->BB
 | .cells k => .cells (nQ r k)
 | .obj o => .obj (renO r o)
theorem renO_id {r:Nat->Nat} {n:Nat} (hr : ∀ b,b<n->r b=b) {o:fu} (h:tX n o=true):renO r o=o:=by
 cases o with
 |map es c=>
  simp only [tX,DT,DJ] at h;simp only [renO]
  congr 1
  have:es.map (fun x=>(eI r x.1,eI r x.2.1,x.2.2))=es.map id:=List.map_congr_left fun x hx=>by have:=h x hx;rw [qp hr x.1 this.1,qp hr x.2.1 this.2];rfl
  rw [this,List.map_id]
 |iter m a b c=>
  cases m with
  |none=>rfl
  |some q=>simp only [tX,DR] at h;simp only [renO,Option.map_some,hr q h]
 |loop st p t q a b=>simp only [renO];rw [lz hr t h]
def bdB (n:Nat):BB->Bool
 | .cells k=>cL n k
 | .obj o=>tX n o
theorem renB_id {r:Nat->Nat} {n:Nat} (hr : ∀ b,b<n->r b=b) {x:BB} (h:bdB n x=true):renB r x=x:=by
 cases x with
 |cells k=>simp only [renB,lz hr k h]
 |obj o=>simp only [renB,renO_id hr h]
theorem aI.bb {h:ad} (hb:aI h) {b:Nat} {x:BB} (hg:h.getB b=some x):bdB h.next x=true:=by
 cases x with
 |cells k=>exact hb b k (h.get_of_getB hg)
 |obj o=>exact hb.obj b o hg
theorem pB.rZ {μ:Mu} {r:Nat->Nat} {o:fu} {ob:Obj} (h:pB μ (renO r o) ob):pB (fun b=>μ (r b)) o ob:=by
 cases o with
 |map es c=>
  cases ob with
  |map es' c'=>
   obtain ⟨h1,h2,h3⟩:=h;refine ⟨h1,by simpa using h2,fun i x e hx he => ?_⟩;have:=h3 i (eI r x.1,eI r x.2.1,x.2.2) e (by simp [hx]) he;exact ⟨aG.rZ _ this.1,aG.rZ _ this.2.1,this.2.2⟩
  |_=>exact h.elim
 |iter m a b c=>
  cases ob with
  |mapIter m' a' b' c'=>
   obtain ⟨h1,h2⟩:=h;refine ⟨?_,h2⟩;cases m with
   |none=>cases m' with
    |none=>trivial
    |some B=>exact h1
   |some q=>cases m' with
    |none=>exact h1
    |some B=>exact h1
  |_=>exact h.elim
 |loop st p t q a b=>
  cases ob with
  |loop R=>
   obtain ⟨h1,h2,h3,h4⟩:=h;exact ⟨h1,h2,aP.om _ h3,h4⟩
  |_=>exact h.elim
structure Gc (h:ad) (v:Value) (h':ad) (v1:Value) (h1:ad) (r:Nat->Nat):Prop where
 low : ∀ b,b<h.next->r b=b
 new : ∀ b,h.next<=b->b<h'.next->h.next<=r b
 inj : ∀ b b',h.next<=b->b<h'.next->h.next<=b'->b'<h'.next->r b=r b'->b=b'
 val:v1=eI r v
 get : ∀ b k,h'.n0<=b->h'.getB b=some k->h1.getB (r b)=some (renB r k)
theorem Gc.getC {h:ad} {v:Value} {h':ad} {v1:Value} {h1:ad} {r:Nat->Nat} (G:Gc h v h' v1 h1 r) (b:Nat) (k:iM) (hb:h'.n0<=b) (hg:h'.get b=some k):h1.get (r b)=some (nQ r k):=
 h1.get_of_getB (G.get b _ hb (h'.bg hg))
theorem gc_sound {μ μ1:Mu} {h h' h1:ad} {w w':World} {v v1 v':Value} {r:Nat->Nat} (G:Gc h v h' v1 h1 r) (gr:bC h h') (gr1:bC h h1) (hbh:aI h) (hbh':aI h') (hbv:bW h'.next v=true)
  (S1:cm μ1 h1 w') (St:cd (μ.cut h.next) h w μ1 h1 w') (hv:aG μ1 v1 v') :
  ∃ μ',cm μ' h' w'/\cd μ h w μ' h' w'/\aG μ' v v':=by
 have hle:=h.n0_le_next
 let μ':Mu:=fun b=>if b<h.next then μ b else if b<h'.next then μ1 (r b) else μ b
 have e1 : ∀ b,b<h.next->μ1 b=μ b:=fun b hb=>by rw [St.ext b (.inl hb)];simp [Mu.cut,hb]
 have e2 : ∀ b,b<h'.next->μ' b=μ1 (r b):=by
  intro b hb;by_cases hb1:b<h.next
  ·rw [G.low b hb1,e1 b hb1];simp [μ',hb1]
  ·simp [μ',hb1,hb]
 have up : ∀ b L,Mu.cut (fun b=>μ1 (r b)) h'.next b=some L->μ' b=some L:=by intro b L hb;obtain ⟨h2,h3⟩:=Mu.CF hb;rw [e2 b h3];exact h2
 have relL : ∀ {k l:List Value},cL h'.next k=true->aP μ1 (nQ r k) l->aP μ' k l:=fun hb hl=>((aP.om _ hl).cut hb).mono up;have relV : ∀ {k l:Value},bW h'.next k=true->aG μ1 (eI r k) l->aG μ' k l:=fun hb hl=>((aG.rZ _ hl).cut hb).mono up;have n1:h1.n0=h'.n0:=gr1.2.1.trans gr.2.1.symm;have n2:h'.n0=h.n0:=gr.2.1;have rge : ∀ b,h'.n0<=b->b<h'.next->h'.n0<=r b:=by
  intro b hb hbn;by_cases hb1:b<h.next
  ·rw [G.low b hb1];exact hb
  ·have:=G.new b (by omega) hbn;omega
 have rinj : ∀ b b',b<h'.next->b'<h'.next->r b=r b'->b=b':=by
  intro b b' hb hb' he;by_cases c1:b<h.next
  ·by_cases c2:b'<h.next
   ·rw [G.low b c1,G.low b' c2] at he;exact he
   ·have:=G.new b' (by omega) hb';rw [G.low b c1] at he;omega
  ·by_cases c2:b'<h.next
   ·have:=G.new b (by omega) hb;rw [G.low b' c2] at he;omega
   ·exact G.inj b b' (by omega) hb (by omega) hb' he
 refine ⟨μ',⟨?_,?_,?_,?_,?_,?_⟩,?_,?_⟩
 ·intro b cs hb hc;have hbl:b<h.next:=by omega
  obtain ⟨L,arr,T,fr,h2,h3,h4,h5,h6⟩:=S1.old b cs (n1▸hb) (by rw [gr1.2.2,<-gr.2.2];exact hc);have hbd:cL h.next cs=true:=by refine hbh b cs ?_;unfold ad.get ad.getB;rw [DL (n2▸hb),<-gr.2.2,hc];rfl
  refine ⟨L,arr,T,fr,?_,h3,h4,h5,?_⟩
  ·rw [e2 b (by have:=gr.1;omega),G.low b hbl];exact h2
  ·exact ⟨h6.1,fun i x y hx hy hh=>relV (jR (bS gr.1 hbd) hx) (by rw [qp G.low x (jR hbd hx)];exact h6.2 i x y hx hy hh)⟩
 ·intro b k hb hg;have hbn:=h'.aO hg;obtain ⟨L,arr,T,fr,h2,h3,h4,h5,h6,h7,h8,h9⟩:=S1.new (r b) _ (n1▸rge b hb hbn) (G.getC b k hb hg);refine ⟨L,arr,T,fr,by rw [e2 b hbn];exact h2,by rw [h3,zA];simp,h4,h5,h6,h7,n1▸h8,relL (hbh' b k hg) h9⟩
 ·intro b o hb hg;have hbn:=h'.lt_of_getB hg;obtain ⟨L,ob,h2,h3,h4,h5,h6⟩:=S1.obj (r b) _ (n1▸rge b hb hbn) (G.get b _ hb hg);exact ⟨L,ob,by rw [e2 b hbn];exact h2,h3,(h4.rZ.cut (hbh'.obj b o hg)).mono up,n1▸h5,h6⟩
 ·intro b b' k k' L L' hb hb' hne hg hg' hL hL';have hbn:=h'.lt_of_getB hg;have hbn':=h'.lt_of_getB hg';rw [e2 b hbn] at hL;rw [e2 b' hbn'] at hL';exact S1.inj (r b) (r b') _ _ L L' (n1▸rge b hb hbn) (n1▸rge b' hb' hbn') (fun he=>hne (rinj b b' hbn hbn' he)) (G.get b k hb hg) (G.get b' k' hb' hg') hL hL'
 ·rw [<-n1];exact S1.size
 ·intro b hb;obtain ⟨L,h2,h3⟩:=S1.low b (n1▸hb);exact ⟨L,by rw [e2 b (by have:=gr.1;omega),G.low b (by omega)];exact h2,h3⟩
 ·have ownup : ∀ B,A0 (μ.cut h.next) h B->A0 μ h B:=by rintro B ⟨b,k,L,h2,h3,h4,h5⟩;exact ⟨b,k,L,h2,h3,(Mu.CF h4).1,h5⟩
  have owndn : ∀ B,A0 μ h B->A0 (μ.cut h.next) h B:=by rintro B ⟨b,k,L,h2,h3,h4,h5⟩;exact ⟨b,k,L,h2,h3,Mu.eu h4 (h.lt_of_getB h3),h5⟩
  refine ⟨?_,gr.2.1,gr.2.2,gr.1,St.os,St.tape,St.output,St.size,fun B hB hO=>St.same B hB (fun h2=>hO (ownup B h2)),?_,St.loops,St.drawn⟩
  ·intro b hb;simp only [μ'];rcases hb with hb|hb
   ·rw [DL hb]
   ·rw [DM (by have:=gr.1;omega),DM (by omega)]
  ·rintro B ⟨b,k,L,h2,h3,h4,h5⟩;have hbn:=h'.lt_of_getB h3;rw [e2 b hbn] at h4;exact (St.own B ⟨r b,_,L,n1▸rge b h2 hbn,G.get b k h2 h3,h4,h5⟩).imp (ownup B) id
 ·exact relV hbv (G.val▸hv)
structure cC (P:Program) (f:FuncId) (s:List Value->ad->aS):Prop where
 fn:f<P.funcs.size
 grow : ∀ args h v h',s args h=some (v,h')->bC h h'
 bd : ∀ args h v h',s args h=some (v,h')->cL h.next args=true->aI h->bW h'.next v=true/\aI h'
 run : ∀ args h v h',s args h=some (v,h')->cL h.next args=true->aI h->P.globals.size<=h.n0 -> ∀ μ w args',cm μ h w->fh μ h h'->aP μ args args' ->
  Cy P f args'.toArray w (mP μ h w v h')
def callL:List (FuncId×(List Value->ad->aS))->aj
 | [],_,_,_=>none
 | (g,s)::t,f,args,h=>if f=g then s args h else callL t f args h
theorem qs {l:List (FuncId×(List Value->ad->aS))} {f:FuncId} {args:List Value} {h:ad} {r:Value×ad} (he:callL l f args h=some r) : ∃ p∈l,p.1=f/\p.2 args h=some r:=by
 induction l with
 |nil=>cases he
 |cons p t ih=>
  obtain ⟨g,s⟩:=p;simp only [callL] at he;split at he
  ·rename_i e;exact ⟨(g,s),by simp,e.symm,he⟩
  ·obtain ⟨q,h1,h2⟩:=ih he;exact ⟨q,by simp [h1],h2⟩
theorem lC {P:Program} (l:List (FuncId×(List Value->ad->aS))) (hl : ∀ p∈l,cC P p.1 p.2):bp P (callL l):=by
 refine ⟨?_,?_,?_,?_⟩
 ·intro f args h v h' he;obtain ⟨p,hp,rfl,he'⟩:=qs he;exact (hl p hp).grow args h v h' he'
 ·intro f args h v h' he;obtain ⟨p,hp,rfl,he'⟩:=qs he;exact (hl p hp).bd args h v h' he'
 ·intro f args h v h' he _;obtain ⟨p,hp,rfl,he'⟩:=qs he;exact (hl p hp).run args h v h' he'
 ·intro l' args h v h' he;obtain ⟨p,hp,hf,he⟩:=qs he;have h1:=(hl p hp).fn;rw [hf] at h1;exact absurd h1 (H2.2 (HP _ _))
theorem Gc.none {h h1:ad} {v:Value} (hb:bW h.next v=true) (hbh:aI h) (hk : ∀ b k,h.n0<=b->h.getB b=some k->h1.getB b=some k):Gc h v h v h1 id where
 low _ _:=rfl
 new _ h1 h2:=by omega
 inj _ _ h1 h2:=by omega
 val:=(qp (n:=h.next) (fun _ _=>rfl) v hb).symm
 get b k h1 h2:=by rw [renB_id (r:=id) (n:=h.next) (fun _ _=>rfl) (hbh.bb h2)];exact hk b k h1 h2
def Ao (n B:Nat):Nat->Nat:=fun b=>if b=n then B else b
def pu (v:Option Value) (h:ad):aS:=v.map fun v=>(v,h)
def nP:List Nat->Code->Code
 | [],c=>c
 | 0::p,.seq a _=>nP p a
 |_::p,.seq _ b=>nP p b
 | 0::p,.cond _ a _=>nP p a
 |_::p,.cond _ _ b=>nP p b
 |_::p,.block _ b=>nP p b
 |_::p,.loop b=>nP p b
 |_::p,.scope b=>nP p b
 |_::_,c=>c
def au (fn:Func) (p:List Nat):Code:=
 match fn.body with
 |some c=>nP p c
 |none => .skip
def aR:Value->Option Bool
 | .bool b=>some b
 |_=>none
def dB (cells:List Value) (h:ad):aS:=some (newRow cells h)
def ei (z:List Value) (ps:List (Nat×Nat×Value)):Option Value:=(fillL z ps).map fun cs => .agg cs.toArray
def cg (n:Nat) (z:Value) (len:Nat) (parts:List (Nat×Value)) (h:ad):aS:=
 if bJ z.cells.toList&&z.cells.size=n&&0<n&&len*n<=16777216&&aJ (parts.flatMap fun x=>x.2.cells.toList) then
  match fillL (cU z.cells.toList len) (parts.map fun x=>(x.1*n,n,x.2)) with
  |some cs=>some (.slice (some ⟨h.next,0,none⟩) len len,h.alloc cs)
  |none=>none
 else none
def jC (k:IntKind) (x:Value) (h:ad):aS:=
 match x with
 | .int _ n=>some (.int k (k.wrap n),h)
 |_=>none
def cvSB (x:Value) (h:ad):aS:=
 match x with
 | .string s=>if s.size<=140737488355328 then some (.slice (some ⟨h.next,0,some 1⟩) s.size s.size,h.alloc (s.data.toList.map fun b => .int .u8 b.toNat)) else none
 | .slice (some _) _ _=>none
 |_=>none
def bsR (n c:Nat) (a:Option Addr) (h:ad):aS:=
 match firstA 1 n (.slice a n c) h with
 |some l=>match l.mapM asByte with
  |some bs=>some (.string ⟨bs.toArray⟩,h)
  |none=>none
 |none=>none
def pX (x:Value) (h:ad):aS:=
 match x with
 | .slice a n c=>bsR n c a h
 | .string s=>some (.string s,h)
 |_=>none
def mkR (n oC:Nat) (z:Value) (len cap:Value) (h:ad):aS:=
 match len,cap with
 | .int .i64 l,.int .i64 c=>
   if 0<=l&&l<=c&&c<=9223372036854775807&&oC*c<=281474976710656&&bJ z.cells.toList&&z.cells.size=n&&0<n then
    some (.slice (some ⟨h.next,0,none⟩) l.toNat c.toNat,h.alloc (cU z.cells.toList c.toNat))
   else none
 |_,_=>none
def iw (size:Nat) (x:Value) (lo hi mx:Option Value):Option Value:=
 match x with
 | .string _=>none
 |x=>sliceSl size x lo hi mx
def mB (off:Nat) (x:Value):Option Value:=
 match x with
 | .agg cs=>cs[off]?
 |_=>none
def ixA1 (n z:Nat) (x i:Value):Option Value:=
 match x,i with
 | .agg cs,.int _ i=>if 0<=i/\i<n then cs[i.toNat*z]? else none
 |_,_=>none
def lenS (x:Value):Option Value:=
 match x with
 | .string s=>some (.int .i64 s.size)
 |_=>none
def lenL (x:Value):Option Value:=
 match x with
 | .slice _ n _=>some (.int .i64 n)
 |_=>none
def clrR (z:Value) (size:Nat) (d:Value) (h:ad):aS:=
 match d with
 | .slice none _ _=>some (undef,h)
 | .slice (some ⟨b,off,_⟩) n _=>
   if n=0 then some (undef,h) else
   if bJ z.cells.toList&&z.cells.size=size&&0<size then (stL b off (cU z.cells.toList n) h).map fun h'=>(undef,h') else none
 |_=>none
def dj {α:Type} (y:Option (Ex×aW×ad)) (r:aW->ad->Option α) (x:Nat->aW->ad->Option α):Option α:=
 match y with
 |some (.ret,e',h')=>r e' h'
 |some (.exit i,e',h')=>x i e' h'
 |_=>none
section
abbrev AL:=List (Nat×Value)
noncomputable def lkB (e0:aW) (l:AL) (t:Nat):Value:=
 List.rec (motive:=fun _=>Value) (e0.getD t undef) (fun p _ ih=>Bool.rec (motive:=fun _=>Value) ih p.2 (Nat.beq p.1 t)) l
def qT (n:Nat) (l:AL) (d:Option Tmp) (v:Value):AL:=
 match d with
 |some t=>match Nat.blt t n with
  |true=>(t,v)::l
  |false=>l
 |none=>l
noncomputable def gP (n:Nat) (e0:aW) (l:AL):aW:=(List.range n).map (lkB e0 l)
theorem lkB_nil (e0:aW) (t:Nat):lkB e0 [] t=e0.getD t undef:=rfl
theorem lkB_cons (e0:aW) (p:Nat×Value) (l:AL) (t:Nat):lkB e0 (p::l) t=if p.1=t then p.2 else lkB e0 l t:=by
 show Bool.rec (motive:=fun _=>Value) (lkB e0 l t) p.2 (Nat.beq p.1 t)=_;cases hb:Nat.beq p.1 t with
 |true=>rw [DL (F8 hb)]
 |false=>rw [DM (GU hb)]
theorem fE (n:Nat) (e0:aW) (l:AL) (t:Nat):(gP n e0 l)[t]? = if t<n then some (lkB e0 l t) else none:=by
 unfold gP;rw [EF];by_cases h:t<n
 ·rw [DL h,F1 h];rfl
 ·rw [DM h,EK (by simpa using h)];rfl
theorem expB_nil (e0:aW):gP e0.length e0 []=e0:=by
 apply FE;intro i;rw [fE];by_cases h:i<e0.length
 ·rw [DL h,lkB_nil,DK,DC h];rfl
 ·rw [DM h,EK (by omega)]
theorem tH (n:Nat) (e0:aW) (l:AL) (d:Option Tmp) (v:Value):gP n e0 (qT n l d v)=putD (gP n e0 l) d v:=by
 cases d with
 |none=>rfl
 |some t=>
  apply FE;intro i;unfold putD qT;simp only;rw [GM,fE];have hlen:(gP n e0 l).length=n:=by simp [gP]
  rw [hlen];cases hb:Nat.blt t n with
  |true=>
   have ht:t<n:=by simpa using hb
   simp only [fE,lkB_cons,ht,DY];by_cases e:t=i
   ·subst e;simp [ht]
   ·simp [e]
  |false=>
   have ht : ¬t<n:=by intro h;rw [show Nat.blt t n=true by simpa using h] at hb;cases hb
   simp only [fE,ht,D3];by_cases e:t=i
   ·subst e;simp [ht]
   ·simp [e]
noncomputable def evB (n:Nat) (e0:aW) (l:AL):Operand->Value
 | .tmp t=>match Nat.blt t n with
   |true=>lkB e0 l t
   |false=>undef
 | .const v=>v
 | .global g=>ptr g 0
 | .func f => .func (.func f) #[] #[]
theorem C3 (n:Nat) (e0:aW) (l:AL):ev (gP n e0 l)=evB n e0 l:=by
 funext x
 cases x with
 |tmp t=>
  simp only [ev,evB,DK,fE];cases hb:Nat.blt t n with
  |true=>have ht:t<n:=by simpa using hb
         simp [ht]
  |false=>
   have ht : ¬t<n:=by intro h;rw [show Nat.blt t n=true by simpa using h] at hb;cases hb
   simp [ht]
 |_=>rfl
noncomputable def nB (n:Nat) (e0:aW) (ops:Array Oper) (l:AL) (j:Nat):Option Bool:=
 match (ops[j]?).bind (·.dst) with
 |some t=>match Nat.blt t n with
  |true=>aR (lkB e0 l t)
  |false=>none
 |none=>none
theorem BA (n:Nat) (e0:aW) (ops:Array Oper) (l:AL) (j:Nat):gV ops (gP n e0 l) j=nB n e0 ops l j:=by
 unfold gV nB;cases (ops[j]?).bind (·.dst) with
 |none=>rfl
 |some t=>
  simp only [Option.bind_some,fE];cases hb:Nat.blt t n with
  |true=>
   have ht:t<n:=by simpa using hb
   simp only [ht,DY];cases lkB e0 l t<;>rfl
  |false=>
   have ht : ¬t<n:=by intro h;rw [show Nat.blt t n=true by simpa using h] at hb;cases hb
   simp [ht]
section
variable {α:Type} (P:Program) (C:aj) (n:Nat) (e0:aW)
noncomputable def opsB (ops:Array Oper) (os:List Oper):AL->ad->(AL->ad->Option α)->Option α:=
 List.rec (motive:=fun _=>AL->ad->(AL->ad->Option α)->Option α) (fun l h k=>k l h)
  (fun o _ ih l h k=>
   match o.guard with
   |none=>ab (opA P C o (evB n e0 l) h) fun v h'=>ih (qT n l o.dst v) h' k
   |some (j,want)=>ab (ai (nB n e0 ops l j==some want) (opA P C o (evB n e0 l) h) h) fun v h'=>ih (qT n l o.dst v) h' k) os
theorem Db (ops:Array Oper) : ∀ (os:List Oper) (l:AL) (h:ad) (k:AL->ad->Option α) (kk:aW->ad->Option α),(∀ l h,k l h=kk (gP n e0 l) h) ->
  opsB P C n e0 ops os l h k=opsK P C ops os (gP n e0 l) h kk
 | [],l,h,k,kk,hk=>hk l h
 |o::cI,l,h,k,kk,hk=>by
  have ih : ∀ l h,List.rec (motive:=fun _=>AL->ad->(AL->ad->Option α)->Option α) (fun l h k=>k l h)
    (fun o _ ih l h k=>
     match o.guard with
     |none=>ab (opA P C o (evB n e0 l) h) fun v h'=>ih (qT n l o.dst v) h' k
     |some (j,want)=>ab (ai (nB n e0 ops l j==some want) (opA P C o (evB n e0 l) h) h) fun v h'=>ih (qT n l o.dst v) h' k) cI l h k=opsK P C ops cI (gP n e0 l) h kk:=fun l h=>Db ops cI l h k kk hk
  unfold opsB opsK;simp only [C3,BA];cases hg:o.guard with
  |none=>
   simp only
   congr 1
   funext v h'
   rw [ih,tH]
  |some g=>
   obtain ⟨j,want⟩:=g;simp only
   congr 1
   funext v h'
   rw [ih,tH]
structure Tb where
 l:AL
 h:ad
 v:Value
 sQ:Bool
noncomputable def chkB (os:List (Nat×Oper)) (tr:List Tb) (hs:List ad) (x:Nat×Nat):Bool:=
 match os[x.1]?,tr[x.1]?,pA (tr.map (·.sQ)) hs (madeIn P os x) (if x.2<x.1 then x.2 else x.2+1) with
 |some y,some t,some h=>bF t.sQ (opA P C y.2 (evB n e0 t.l) h) t.v
 |some _,some t,none => !t.sQ
 |_,_,_=>false
noncomputable def dynB (ops:Array Oper) (os:List (Nat×Oper)) (tr:List Tb) (hEnd:ad):Bool:=
 (oV P ops os).foldr (fun x acc=>chkB P C n e0 os tr (tr.map (·.h) ++ [hEnd]) x&&acc) true
noncomputable def Tb.up (n:Nat) (e0:aW) (t:Tb):Tr1:=⟨gP n e0 t.l,t.h,t.v,t.sQ⟩
theorem dynB_eq (ops:Array Oper) (os:List (Nat×Oper)) (tr:List Tb) (hEnd:ad):dynB P C n e0 ops os tr hEnd=vy P C ops os (tr.map (Tb.up n e0)) hEnd:=by
 unfold dynB vy
 congr 1
 funext x acc
 congr 1
 unfold chkB chkAt;have h1:(tr.map (Tb.up n e0)).map (·.h)=tr.map (·.h):=by simp [Function.comp_def, Tb.up]
 have h2:(tr.map (Tb.up n e0)).map (·.sQ)=tr.map (·.sQ):=by simp [Function.comp_def, Tb.up]
 rw [h1,h2,EF];cases os[x.1]? with
 |none=>rfl
 |some y=>
  cases tr[x.1]? with
  |none=>rfl
  |some t=>
   cases pA (tr.map (·.sQ)) (List.map (fun x=>x.h) tr ++ [hEnd]) (madeIn P os x) (if x.2<x.1 then x.2 else x.2+1) with
   |none=>rfl
   |some h=>simp [Tb.up,C3]
noncomputable def Cb (ops:Array Oper) (os:List (Nat×Oper)):AL->ad->(List Tb->AL->ad->Option α)->Option α:=
 List.rec (motive:=fun _=>AL->ad->(List Tb->AL->ad->Option α)->Option α) (fun l h k=>k [] l h)
  (fun x _ ih l h k=>
   match x.2.guard with
   |none=>ab (opA P C x.2 (evB n e0 l) h) fun v h'=>ih (qT n l x.2.dst v) h' fun tr=>k (⟨l,h,v,true⟩::tr)
   |some (j,want)=>ab (ai (nB n e0 ops l j==some want) (opA P C x.2 (evB n e0 l) h) h) fun v h'=>ih (qT n l x.2.dst v) h' fun tr=>k (⟨l,h,v,nB n e0 ops l j==some want⟩::tr)) os
theorem vo (ops:Array Oper) : ∀ (os:List (Nat×Oper)) (l:AL) (h:ad) (k:List Tb->AL->ad->Option α) (kk:List Tr1->aW->ad->Option α),(∀ tr l h,k tr l h=kk (tr.map (Tb.up n e0)) (gP n e0 l) h) ->
  Cb P C n e0 ops os l h k=traceK P C ops os (gP n e0 l) h kk
 | [],l,h,k,kk,hk=>hk [] l h
 |x::cI,l,h,k,kk,hk=>by
  show (match x.2.guard with
   |none=>ab (opA P C x.2 (evB n e0 l) h) fun v h'=>Cb P C n e0 ops cI (qT n l x.2.dst v) h' fun tr=>k (⟨l,h,v,true⟩::tr)
   |some (j,want)=>ab (ai (nB n e0 ops l j==some want) (opA P C x.2 (evB n e0 l) h) h) fun v h'=>Cb P C n e0 ops cI (qT n l x.2.dst v) h' fun tr=>k (⟨l,h,v,nB n e0 ops l j==some want⟩::tr))=_
  unfold traceK;simp only [C3,BA];cases hg:x.2.guard with
  |none=>
   simp only
   congr 1
   funext v h'
   rw [vo ops cI (qT n l x.2.dst v) h' _ (fun tr=>kk (⟨gP n e0 l,h,v,true⟩::tr)) (fun tr l h=>by rw [hk];rfl),tH]
  |some g=>
   obtain ⟨j,want⟩:=g;simp only
   congr 1
   funext v h'
   rw [vo ops cI (qT n l x.2.dst v) h' _ (fun tr=>kk (⟨gP n e0 l,h,v,nB n e0 ops l j==some want⟩::tr)) (fun tr l h=>by rw [hk];rfl),tH]
noncomputable def B8 (ops:Array Oper) (draw:Bool) (l:AL) (h:ad) (k:AL->ad->Option α):Option α:=
 match draw with
 |false=>opsB P C n e0 ops ops.toList l h k
 |true=>
  match oU P ops with
  |true=>opsB P C n e0 ops ((late P ops).map (·.2)) l h k
  |false=>match sK P ops (late P ops) with
   |true=>Cb P C n e0 ops (late P ops) l h fun tr l' h'=>match dynB P C n e0 ops (late P ops) tr h' with
    |true=>k l' h'
    |false=>none
   |false=>none
theorem regionB_eq (ops:Array Oper) (draw:Bool) (l:AL) (h:ad) (k:AL->ad->Option α) (kk:aW->ad->Option α) (hk : ∀ l h,k l h=kk (gP n e0 l) h) :
  B8 P C n e0 ops draw l h k=tt P C ops draw (gP n e0 l) h kk:=by
 unfold B8 tt;cases draw with
 |false=>exact Db P C n e0 ops _ l h k kk hk
 |true=>
  simp only;cases oU P ops with
  |true=>exact Db P C n e0 ops _ l h k kk hk
  |false=>
   simp only;cases sK P ops (late P ops) with
   |false=>rfl
   |true=>
    refine vo P C n e0 ops _ l h _ _ ?_;intro tr l h;rw [dynB_eq];cases vy P C ops (late P ops) (tr.map (Tb.up n e0)) h with
    |true=>exact hk l h
    |false=>rfl
def endN (o:Option (Ex×aW×ad)) (n r:aW->ad->Option α) (x:Nat->aW->ad->Option α):Option α:=
 match o with
 |some (.normal,e',h')=>n e' h'
 |some (.ret,e',h')=>r e' h'
 |some (.exit i,e',h')=>x i e' h'
 |none=>none
noncomputable def zR (c:Code):AL->ad->(AL->ad->Option α)->(aW->ad->Option α)->(AL->ad->Option α)->(aW->ad->Option α)->(Nat->AL->ad->Option α)->(Nat->aW->ad->Option α)->Option α:=
 Code.rec (motive:=fun _=>AL->ad->(AL->ad->Option α)->(aW->ad->Option α)->(AL->ad->Option α)->(aW->ad->Option α)->(Nat->AL->ad->Option α)->(Nat->aW->ad->Option α)->Option α)
  (fun l h k _ _ _ _ _=>k l h)
  (fun _ ops draw l h k _ _ _ _ _=>B8 P C n e0 ops draw l h k)
  (fun _ b ia ib l h k kE r rE x xE=>ia l h (fun l' h'=>ib l' h' k kE r rE x xE) (fun e' h'=>codeK P C b e' h' kE rE xE) r rE x xE)
  (fun q _ _ ia ib l h k kE r rE x xE=>match evB n e0 l q with
   | .bool true=>ia l h k kE r rE x xE
   | .bool false=>ib l h k kE r rE x xE
   |_=>none)
  (fun id _ ib l h k kE r rE x xE=>ib l h k kE r rE (fun i l' h'=>if i=id then k l' h' else x i l' h') (fun i e' h'=>if i=id then kE e' h' else xE i e' h'))
  (fun b _ l h _ _ _ rE _ xE=>dj (iter (codeA P C b) aB (gP n e0 l) h) rE xE)
  (fun g ps a b _ _ l h _ kE _ rE _ xE=>endN (codeA P C (.rangeFunc g ps a b) (gP n e0 l) h) kE rE xE)
  (fun i l h _ _ _ _ x _=>x i l h)
  (fun _ ib l h k kE r rE x xE=>ib l h k kE r rE x xE)
  (fun _ l h k _ _ _ _ _=>k l h)
  (fun _ _ _ _ _ _ _ _ _=>none)
  (fun l h _ _ r _ _ _=>r l h)
  (fun _ _ _ _ _ _ _ _ _=>none) c
theorem kK : ∀ (c:Code) (l:AL) (h:ad) (k:AL->ad->Option α) (kE:aW->ad->Option α) (r:AL->ad->Option α) (rE:aW->ad->Option α) (x:Nat->AL->ad->Option α) (xE:Nat->aW->ad->Option α),
  (∀ l h,k l h=kE (gP n e0 l) h)->(∀ l h,r l h=rE (gP n e0 l) h)->(∀ i l h,x i l h=xE i (gP n e0 l) h) ->
  zR P C n e0 c l h k kE r rE x xE=codeK P C c (gP n e0 l) h kE rE xE
 | .skip,l,h,k,kE,r,rE,x,xE,hk,hr,hx=>hk l h
 | .region _ ops d,l,h,k,kE,r,rE,x,xE,hk,hr,hx=>regionB_eq P C n e0 ops d l h k kE hk
 | .seq a b,l,h,k,kE,r,rE,x,xE,hk,hr,hx=>by show zR P C n e0 a l h (fun l' h'=>zR P C n e0 b l' h' k kE r rE x xE) (fun e' h'=>codeK P C b e' h' kE rE xE) r rE x xE=_;exact kK a l h _ _ r rE x xE (fun l h=>kK b l h k kE r rE x xE hk hr hx) hr hx
 | .cond q a b,l,h,k,kE,r,rE,x,xE,hk,hr,hx=>by
   show (match evB n e0 l q with
    | .bool true=>zR P C n e0 a l h k kE r rE x xE
    | .bool false=>zR P C n e0 b l h k kE r rE x xE
    |_=>none)=_
   unfold codeK;rw [C3,kK a l h k kE r rE x xE hk hr hx,kK b l h k kE r rE x xE hk hr hx];try rfl
 | .block id b,l,h,k,kE,r,rE,x,xE,hk,hr,hx=>by show zR P C n e0 b l h k kE r rE (fun i l' h'=>if i=id then k l' h' else x i l' h') (fun i e' h'=>if i=id then kE e' h' else xE i e' h')=_;exact kK b l h k kE r rE _ _ hk hr (fun i l h=>by simp only [hk,hx])
 | .loop b,l,h,k,kE,r,rE,x,xE,hk,hr,hx=>rfl
 | .exit i,l,h,k,kE,r,rE,x,xE,hk,hr,hx=>hx i l h
 | .scope b,l,h,k,kE,r,rE,x,xE,hk,hr,hx=>kK b l h k kE r rE x xE hk hr hx
 | .label _,l,h,k,kE,r,rE,x,xE,hk,hr,hx=>hk l h
 | .ret,l,h,k,kE,r,rE,x,xE,hk,hr,hx=>hr l h
 | .goto _,l,h,k,kE,r,rE,x,xE,hk,hr,hx=>rfl
 | .rangeFunc g ps a b,l,h,k,kE,r,rE,x,xE,hk,hr,hx=>rfl
 | .refuse _,l,h,k,kE,r,rE,x,xE,hk,hr,hx=>rfl
noncomputable def vG (c:Code) (h:ad) (kE rE:aW->ad->Option α) (xE:Nat->aW->ad->Option α):Option α:=
 zR P C n e0 c [] h (fun l h=>kE (gP n e0 l) h) kE (fun l h=>rE (gP n e0 l) h) rE (fun i l h=>xE i (gP n e0 l) h) xE
theorem vu (hn:Nat.beq e0.length n=true) (c:Code) (h:ad) (kE rE:aW->ad->Option α) (xE:Nat->aW->ad->Option α) :
  codeK P C c e0 h kE rE xE=vG P C n e0 c h kE rE xE:=by
 unfold vG;rw [kK P C n e0 c [] h (fun l h=>kE (gP n e0 l) h) kE (fun l h=>rE (gP n e0 l) h) rE (fun i l h=>xE i (gP n e0 l) h) xE (fun _ _=>rfl) (fun _ _=>rfl) (fun _ _ _=>rfl)];obtain rfl:=F8 hn;rw [expB_nil]
end
noncomputable def bodyB (P:Program) (C:aj) (fn:Func) (args:List Value) (h:ad):aS:=
 match fn.body with
 |none=>none
 |some c=>vG P C fn.ntmps (args++List.replicate (fn.ntmps-args.length) undef) c h (resultsA P fn.results.toList) (resultsA P fn.results.toList) (fun _ _ _=>none)
theorem bodyB_eq (P:Program) (C:aj) (fn:Func) (args:List Value) (h:ad) (hn:Nat.ble args.length fn.ntmps=true):ba P C fn args h=bodyB P C fn args h:=by
 unfold ba bodyB;cases fn.body with
 |none=>rfl
 |some c=>
  refine vu P C _ _ ?_ c h _ _ _;have:=EV hn;have h2:(args++List.replicate (fn.ntmps-args.length) undef).length=fn.ntmps:=by simp;omega
  rw [h2];exact Nat.beq_refl _
noncomputable def roundB (P:Program) (C:aj) (n:Nat) (b:Code) (e:aW) (h:ad):Option (Ex×aW×ad):=
 vG P C n e b h (fun e h=>some (.normal,e,h)) (fun e h=>some (.ret,e,h)) (fun i e h=>some (.exit i,e,h))
theorem roundB_eq (P:Program) (C:aj) (n:Nat) (b:Code) (e:aW) (h:ad) (hn:Nat.beq e.length n=true):roundK P C b e h=roundB P C n b e h:=
 vu P C n e hn b h _ _ _
end
section
@[simp] theorem ae {α : Type} (v : Value) (h : ad) (k : Value -> ad -> Option α) : ab (some (v, h)) k = k v h := rfl
@[simp] theorem thenV_none {α : Type} (k : Value -> ad -> Option α) : ab none k = none := rfl
@[simp] theorem af (v : Value) (h : ad) : pu (some v) h = some (v, h) := rfl
@[simp] theorem aw (o : aS) (h : ad) : ai true o h = o := rfl
@[simp] theorem ax (o : aS) (h : ad) : ai false o h = some (undef, h) := rfl
@[simp] theorem bw (b : Bool) : aR (.bool b) = some b := rfl
@[simp] theorem bOf_undef : aR undef = none := rfl
@[simp] theorem fq {α : Type} (e : aW) (h : ad) (r : aW -> ad -> Option α) (x : Nat -> aW -> ad -> Option α) : dj (some (.ret, e, h)) r x = r e h := rfl
@[simp] theorem aV {α : Type} (i : Nat) (e : aW) (h : ad) (r : aW -> ad -> Option α) (x : Nat -> aW -> ad -> Option α) : dj (some (.exit i, e, h)) r x = x i e h := rfl
@[simp] theorem bR (b o : Nat) : nilCheckA (ptr b o) = some (ptr b o) := rfl
@[simp] theorem ay (b o n : Nat) : aH (ptr b o) n = some (ptr b (o + n)) := rfl
@[simp] theorem lenL_slice (p : Option Addr) (n c : Nat) : lenL (.slice p n c) = some (.int .i64 n) := rfl
@[simp] theorem lenS_string (s : ByteArray) : lenS (.string s) = some (.int .i64 s.size) := rfl
@[simp] theorem aT (b : Bool) : unA .not (.bool b) = some (.bool !b) := rfl
@[simp] theorem extractA_tuple (vs : Array Value) (i : Nat) : extractA (.tuple vs) i = vs[i]? := rfl
@[simp] theorem du (k j : IntKind) (n : Int) (h : ad) : jC k (.int j n) h = some (.int k (k.wrap n), h) := rfl
section
variable (P:Program) (t:TypeId) (k:IntKind) (a b:Int)
theorem dZ (op:BinOp) (k':IntKind):aC P op t (.int k a) (.int k' b)=jP op k k' a b:=by cases op<;>rfl
@[simp] theorem lN : aC P .add t (.int k a) (.int k b) = some (.int k (k.wrap (a + b))) := by rw [dZ]; simp [jP]
@[simp] theorem fi : aC P .sub t (.int k a) (.int k b) = some (.int k (k.wrap (a - b))) := by rw [dZ]; simp [jP]
@[simp] theorem iC : aC P .mul t (.int k a) (.int k b) = some (.int k (k.wrap (a * b))) := by rw [dZ]; simp [jP]
theorem Dd (hb:b≠0):aC P .quo t (.int k a) (.int k b)=some (.int k (k.wrap (a.tdiv b))):=by rw [dZ];simp [jP,hb]
theorem tq (hb:b≠0):aC P .rem t (.int k a) (.int k b)=some (.int k (a.tmod b)):=by rw [dZ];simp [jP,hb]
@[simp] theorem bA : aC P .eql t (.int k a) (.int k b) = some (.bool (a == b)) := by rw [dZ]; simp [jP]
@[simp] theorem aZ : aC P .neq t (.int k a) (.int k b) = some (.bool (a != b)) := by rw [dZ]; simp [jP]
@[simp] theorem bG : aC P .lss t (.int k a) (.int k b) = some (.bool (decide (a < b))) := by rw [dZ]; simp [jP]
@[simp] theorem bQ : aC P .leq t (.int k a) (.int k b) = some (.bool (decide (a <= b))) := by rw [dZ]; simp [jP]
@[simp] theorem bD : aC P .gtr t (.int k a) (.int k b) = some (.bool (decide (a > b))) := by rw [dZ]; simp [jP]
@[simp] theorem bH : aC P .geq t (.int k a) (.int k b) = some (.bool (decide (a >= b))) := by rw [dZ]; simp [jP]
end
theorem aU {h:ad} {b o:Nat} {k:iM} {c:Value} (hg:h.get b=some k) (hc:k[o]? = some c) (hh:dX c=false:=by rfl):ld1 (ptr b o) h=some (c,h):=by unfold ld1 ptr;simp only [hg,hc,hh,DY]
theorem nT {h:ad} {b o n:Nat} {k:iM} (hg:h.get b=some k) (hc:o+n<=k.length) (hh:noHoles ((k.drop o).take n)=true):cx n (ptr b o) h=some (.agg ((k.drop o).take n).toArray,h):=by unfold cx ptr;simp only [hg,hc,hh,and_self,DY]
theorem iter_inv {step:aW->ad->Option (Ex×aW×ad)} {Inv:Nat->aW->ad->Prop} {fin:Ex->aW->ad->Prop}
  (hs : ∀ k e h,Inv k e h -> ∃ x e' h',step e h=some (x,e',h')/\((x = .normal /\ ∃ j,j<k/\Inv j e' h')\/(x ≠ .normal/\fin x e' h'))) :
  ∀ (k n:Nat) (e:aW) (h:ad),k<n->Inv k e h -> ∃ x e' h',iter step n e h=some (x,e',h')/\fin x e' h':=by
 intro k;induction k using Nat.strongRecOn with
 |_ k ih=>
  intro n e h hn hi;obtain ⟨m,rfl⟩ : ∃ m,n=m+1:=⟨n-1,by omega⟩
  obtain ⟨x,e',h',h1,h2|h2⟩:=hs k e h hi
  ·obtain ⟨rfl,j,hj,hi2⟩:=h2;obtain ⟨x,e2,h3,h4,h5⟩:=ih j hj m e' h' (by omega) hi2;exact ⟨x,e2,h3,by simp only [iter,h1];exact h4,h5⟩
  ·refine ⟨x,e',h',?_,h2.2⟩;simp only [iter,h1];cases x with
   |normal=>exact absurd rfl h2.1
   |ret=>rfl
   |exit i=>rfl
theorem wrap_i64_if (x:Int):IntKind.wrap .i64 x=if 9223372036854775808<=x%18446744073709551616 then x%18446744073709551616-18446744073709551616 else x%18446744073709551616:=by unfold IntKind.wrap;simp [IntKind.bits,IntKind.signed]
theorem wrap_i64 {x:Int} (h1 : -9223372036854775808<=x) (h2:x<=9223372036854775807):IntKind.wrap .i64 x=x:=by rw [wrap_i64_if];split<;>omega
theorem wrap_u64 {x:Int} (h1:0<=x) (h2:x<18446744073709551616):IntKind.wrap .u64 x=x:=by simp only [IntKind.wrap,IntKind.bits,IntKind.signed,EB,DD,D3];omega
theorem wrap_u32 {x:Int} (h1:0<=x) (h2:x<4294967296):IntKind.wrap .u32 x=x:=by simp only [IntKind.wrap,IntKind.bits,IntKind.signed,EB,DD,D3];omega
theorem wrap_u8 {x:Int} (h1:0<=x) (h2:x<256):IntKind.wrap .u8 x=x:=by simp only [IntKind.wrap,IntKind.bits,IntKind.signed,EB,DD,D3];omega
theorem fZ (x:Int):IntKind.wrap .u8 x=x%256:=by simp only [IntKind.wrap,IntKind.bits,IntKind.signed,EB,DD,D3];omega
theorem tR (x:Int):IntKind.wrap .u32 x=x%4294967296:=by simp only [IntKind.wrap,IntKind.bits,IntKind.signed,EB,DD,D3];omega
end
structure bP (P:Program) (f:FuncId) (fn:Func):Prop where
 fA:P.funcs[f]? = some fn
 name : (fn.name == "runtime.NumGoroutine") = false
 some_:fn.body.isSome=true
 ok:codeOk P (au fn [])=true
theorem bP.body {P:Program} {f:FuncId} {fn:Func} (i:bP P f fn):fn.body=some (au fn []):=by
 have:=i.some_;unfold au;cases h:fn.body with
 |none=>rw [h] at this;cases this
 |some c=>simp [nP]
noncomputable def lkF (x:Nat->Value) (l:AL) (t:Nat):Value:=
 List.rec (motive:=fun _=>Value) (x t) (fun p _ ih=>Bool.rec (motive:=fun _=>Value) ih p.2 (Nat.beq p.1 t)) l
noncomputable def mkE (n:Nat) (x:Nat->Value) (l:AL):aW:=(List.range n).map (lkF x l)
def bs (l:List Value):Nat->Value:=fun i=>l.getD i undef
@[simp] theorem lkF_nil (x : Nat -> Value) (t : Nat) : lkF x [] t = x t := rfl
theorem lkF_cons (x:Nat->Value) (p:Nat×Value) (l:AL) (t:Nat):lkF x (p::l) t=if p.1=t then p.2 else lkF x l t:=by
 show Bool.rec (motive:=fun _=>Value) (lkF x l t) p.2 (Nat.beq p.1 t)=_;cases hb:Nat.beq p.1 t with
 |true=>rw [DL (F8 hb)]
 |false=>rw [DM (GU hb)]
@[simp] theorem mkE_length (n : Nat) (x : Nat -> Value) (l : AL) : (mkE n x l).length = n := by simp [mkE]
section
theorem ofInt_natCast (w n:Nat):BitVec.ofInt w (n:Int)=BitVec.ofNat w n:=by simp
section
variable (P:Program) (t:TypeId)
theorem bits_u {k:IntKind} (hk:k.signed=false) (n:Nat) (hn:n<2^k.bits):IntKind.wrap k (n:Int)=n:=by
 unfold IntKind.wrap;simp only [hk,EB,DD,D3];have:((2:Int)^k.bits)=((2^k.bits:Nat):Int):=by simp
 rw [this,<-Int.natCast_emod,GG hn]
theorem bin_xor_nat {k:IntKind} (hk:k.signed=false) {a b:Nat} (ha:a<2^k.bits) (hb:b<2^k.bits):aC P .xor t (.int k a) (.int k b)=some (.int k ((a ^^^ b:Nat):Int)):=by rw [dZ];simp only [jP,ne_eq,not_true,D3,pe,ofInt_natCast,BitVec.toNat_xor,HV,GG ha,GG hb];rw [bits_u hk _ (Nat.xor_lt_two_pow ha hb)]
theorem bin_and_nat {k:IntKind} (hk:k.signed=false) {a b:Nat} (ha:a<2^k.bits) (hb:b<2^k.bits):aC P .and t (.int k a) (.int k b)=some (.int k ((a &&& b:Nat):Int)):=by rw [dZ];simp only [jP,ne_eq,not_true,D3,pe,ofInt_natCast,BitVec.toNat_and,HV,GG ha,GG hb];rw [bits_u hk _ (Nat.and_lt_two_pow a hb)]
theorem bin_or_nat {k:IntKind} (hk:k.signed=false) {a b:Nat} (ha:a<2^k.bits) (hb:b<2^k.bits):aC P .or t (.int k a) (.int k b)=some (.int k ((a ||| b:Nat):Int)):=by rw [dZ];simp only [jP,ne_eq,not_true,D3,pe,ofInt_natCast,BitVec.toNat_or,HV,GG ha,GG hb];rw [bits_u hk _ (Nat.or_lt_two_pow ha hb)]
theorem ez {k k':IntKind} {a b:Nat} (hb:b<=k.bits):aC P .shr t (.int k a) (.int k' b)=some (.int k ((a/2^b:Nat):Int)):=by
 rw [dZ];have h1 : ¬((b:Int)<0):=by omega
 simp only [jP,h1,D3,Int.toNat_natCast,HB hb];have:((2:Int)^b)=((2^b:Nat):Int):=by simp
 rw [this,Int.fdiv_eq_ediv_of_nonneg _ (Int.natCast_nonneg _)];rfl
end
end
structure az (h h':ad) (B:Nat->Prop):Prop where
 n0:h'.n0=h.n0
 next:h.next<=h'.next
 getB : ∀ c,c<h.next -> ¬B c->h'.getB c=h.getB c
theorem az.get {h h':ad} {B:Nat->Prop} (x:az h h' B) (c:Nat) (hc:c<h.next) (hB : ¬B c):h'.get c=h.get c:=by unfold ad.get;rw [x.getB c hc hB]
theorem az.obj {h h':ad} {B:Nat->Prop} (x:az h h' B) {c:Nat} {o:fu} (g:h.getB c=some (.obj o)) (hB : ¬B c):h'.getB c=some (.obj o):=(x.getB c (h.lt_of_getB g) hB).trans g
theorem az.refl (h:ad) (B:Nat->Prop):az h h B:=⟨rfl,DF _,fun _ _ _=>rfl⟩
theorem az.trans {a b c:ad} {B:Nat->Prop} (x:az a b B) (y:az b c B):az a c B:=
 ⟨y.n0.trans x.n0,D5 x.next y.next,fun d hd hb=>(y.getB d (ED hd x.next) hb).trans (x.getB d hd hb)⟩
theorem az.mono {a b:ad} {B B':Nat->Prop} (x:az a b B) (hB : ∀ c,c<a.next->B c->B' c):az a b B':=
 ⟨x.n0,x.next,fun d hd hb=>x.getB d hd (fun h=>hb (hB d hd h))⟩
theorem az.alloc (h:ad) (k:iM) (B:Nat->Prop):az h (h.alloc k) B:=
 ⟨rfl,by simp,fun c hc _=>by rw [ad.cF,DM (by omega)]⟩
theorem az.set {h:ad} {b:Nat} {k k':iM} {B:Nat->Prop} (hb:h.n0<=b) (hg:h.get b=some k) (hB:h.next<=b\/B b):az h (h.set b k') B:=
 ⟨rfl,by simp,fun c hc hn=>by
  by_cases e:c=b
  ·subst e;rcases hB with h1|h1
   ·omega
   ·exact absurd h1 hn
  ·exact ad.iJ hb (h.aO hg) _ e⟩
theorem splice_one (k:List Value) (o:Nat) (v:Value) (ho:o<k.length):splice k o [v]=k.set o v:=by unfold splice;rw [List.set_eq_take_append_cons_drop,DL ho];simp
theorem xJ {h:ad} {b o:Nat} {k:iM} {v:Value} (hg:h.get b=some k) (ho:o<k.length) (hn:h.n0<=b) (hc:v.cells = #[v]) (hv:v.oneCell'=true) :
  eo 1 (ptr b o) v h=some (undef,h.set b (k.set o v)):=by
 unfold eo ptr;simp only [hc,FI,List.length_cons,List.length_nil,DG,DY];unfold stL;simp only [hg,List.length_cons,List.length_nil,DG];rw [DL (by simp [hn,aJ,hv];omega),splice_one k o v ho];rfl
noncomputable def aL (n:Nat) (x:Nat->Value):aW:=(List.range n).map x
noncomputable def up (x:Nat->Value) (l:AL):Nat->Value:=lkF x l
@[simp] theorem up_nil (x : Nat -> Value) (t : Nat) : up x [] t = x t := rfl
theorem xG (x:Nat->Value) (s:Nat) (v:Value) (l:AL) (t:Nat):up x ((s,v)::l) t=if s=t then v else up x l t:=lkF_cons ..
theorem up_same (x:Nat->Value) (s:Nat) (v:Value) (l:AL):up x ((s,v)::l) s=v:=by rw [xG,DL rfl]
@[simp] theorem yw (n : Nat) (x : Nat -> Value) : (aL n x).length = n := by simp [aL]
theorem aE {P:Program} {C:aj} {n:Nat} {b:Code} {T:(Nat->Value)->ad->Option (Ex×aW×ad)} (hT : ∀ x h,roundB P C n b (aL n x) h=T x h) (x:Nat->Value) (h:ad) :
  codeA P C b (aL n x) h=T x h:=by
 rw [<-roundK_eq,roundB_eq P C n b _ h (by rw [yw];exact Nat.beq_refl n),<-hT]
theorem fN {α:Type} {P:Program} {C:aj} {n:Nat} {b:Code} {kE rE:aW->ad->Option α} {xE:Nat->aW->ad->Option α} {T:(Nat->Value)->ad->Option α}
  (hT : ∀ x h,vG P C n (aL n x) b h kE rE xE=T x h) (x:Nat->Value) (h:ad) :
  codeK P C b (aL n x) h kE rE xE=T x h:=by
 rw [vu P C n (aL n x) (by rw [yw];exact Nat.beq_refl n),<-hT]
theorem loop_inv {P:Program} {C:aj} {n:Nat} {b:Code} {T:(Nat->Value)->ad->Option (Ex×aW×ad)} (hT : ∀ x h,codeA P C b (aL n x) h=T x h)
  {Inv:Nat->(Nat->Value)->ad->Prop} {fin:Ex->(Nat->Value)->ad->Prop}
  (hs : ∀ k x h,Inv k x h -> ∃ ex x' h',T x h=some (ex,aL n x',h')/\((ex = .normal /\ ∃ j,j<k/\Inv j x' h')\/(ex ≠ .normal/\fin ex x' h')))
  {k:Nat} {x:Nat->Value} {h:ad} (hk:k<aB) (hi:Inv k x h) :
  ∃ ex x' h',iter (codeA P C b) aB (aL n x) h=some (ex,aL n x',h')/\fin ex x' h':=by
 obtain ⟨ex,e',h',h1,x',rfl,h2⟩:=iter_inv (step:=codeA P C b) (Inv:=fun k e h => ∃ x,e=aL n x/\Inv k x h) (fin:=fun ex e h => ∃ x,e=aL n x/\fin ex x h)
  (by
   rintro k _ h ⟨x,rfl,hi⟩;obtain ⟨ex,x',h',h1,h2⟩:=hs k x h hi;refine ⟨ex,aL n x',h',(hT x h).trans h1,?_⟩;rcases h2 with ⟨h2,j,hj,h3⟩|⟨h2,h3⟩
   ·exact .inl ⟨h2,j,hj,x',rfl,h3⟩
   ·exact .inr ⟨h2,x',rfl,h3⟩)
  k aB (aL n x) h hk ⟨x,rfl,hi⟩
 exact ⟨ex,x',h',h1,h2⟩
section
def oZ (P : Program) (fn : Func) : Bool := !(fn.name == "runtime.NumGoroutine") && match fn.body with | some c => codeOk P c | none => false
section
variable {P:Program} {C:aj}
theorem ld_bd {t:TypeId} {x v:Value} {h h':ad} (hb:aI h) (hx:bW h.next x=true) (e:ld P t x h=some (v,h')):bW h.next v=true:=by
 have hC:bp P (fun _ _ _=>none):=⟨by simp,by simp,by simp,by simp⟩
 have:=zc (P:=P) (C:=fun _ _ _=>none) (o:={ dst:=none,type:=0,op := .load t (.const x),after := #[],guard:=none,pos:=default }) (ρ:=fun o=>match o with | .const v=>v|_=>undef) hC hb
  (by
   intro y hy;have:y = .const x:=by simpa [Op.operands] using hy
   subst this;exact hx) (v:=v) (h':=h') e
 have hh:h'=h:=by
  unfold ld at e;split at e
  ·unfold cx at e;split at e
   ·split at e
    ·split at e
     ·cases e;rfl
     ·cases e
    ·cases e
   ·cases e
  ·unfold ld1 at e
   repeat' split at e
   all_goals first
    | (cases e;done)
    | (simp only [DE,DO] at e;exact e.2.symm)
  ·cases e
 subst hh;exact this.1
theorem zS {r:ResultVar} {e:aW} {h:ad} {v:Value} (hb:aI h) (he:cL h.next e=true) (x:fj P r e h=some v):bW h.next v=true:=by
 have key : ∀ t,bW h.next (e.getD t undef)=true:=by
  intro t;rw [DK];cases ht:e[t]? with
  |none=>rfl
  |some y=>exact dH.1 he y (EY ht)
 cases r with
 |tmp t=>simp only [fj,DE] at x;subst x;exact key t
 |cell a t=>
  simp only [fj,DQ] at x;obtain ⟨⟨y,h'⟩,h1,rfl⟩:=x;exact ld_bd hb (key a) h1
theorem wu {rs:List ResultVar} {e:aW} {h h':ad} {v:Value} (hb:aI h) (he:cL h.next e=true) (x:resultsA P rs e h=some (v,h')):bW h'.next v=true/\aI h':=by
 have hh:=jg x;subst hh;refine ⟨?_,hb⟩;unfold resultsA at x;split at x
 ·simp only [DQ,DO] at x;obtain ⟨v1,hv1,rfl,_⟩:=x;exact zS hb he hv1
 ·simp only [DQ,DO] at x;obtain ⟨vs,hvs,rfl,_⟩:=x;show cL _ vs=true;rw [dH];intro y hy;have : ∀ (rs:List ResultVar) (vs:List Value),rs.mapM (fun r=>fj P r e h')=some vs -> ∀ y∈vs,bW h'.next y=true:=by
   intro rs;induction rs with
   |nil=>intro vs hvs y hy;simp at hvs;subst hvs;cases hy
   |cons r rs ih=>
    intro vs hvs y hy;simp only [GO,Option.bind_eq_bind,DZ,Option.pure_def,DE] at hvs;obtain ⟨a,ha,b,hb2,rfl⟩:=hvs;rcases FJ.1 hy with rfl|hy
    ·exact zS hb he ha
    ·exact ih b hb2 y hy
  exact this _ _ hvs y hy
theorem zm (hC:bp P C) {fn:Func} {args:List Value} {h h':ad} {v:Value} (he:bodyA P C fn args h=some (v,h')):bC h h':=by
 unfold bodyA at he;split at he
 ·cases he
 ·rename_i c hb;cases hc:codeA P C c (args++List.replicate (fn.ntmps-args.length) undef) h with
  |none=>rw [hc] at he;cases he
  |some y=>
   obtain ⟨ex,e1,h2⟩:=y;rw [hc] at he;have hgrow:resultsA P fn.results.toList e1 h2=some (v,h'):=by
    cases ex with
    |normal=>exact he
    |ret=>exact he
    |exit i=>cases he
   rw [jg hgrow];exact bY hC c hc
theorem bodyA_bd (hC:bp P C) {fn:Func} {args:List Value} {h h':ad} {v:Value} (hok:oZ P fn=true) (hg:P.globals.size<=h.n0) (he:bodyA P C fn args h=some (v,h')) (hba:cL h.next args=true) (hbh:aI h) :
  bW h'.next v=true/\aI h':=by
 unfold bodyA at he;split at he
 ·cases he
 ·rename_i c hb;have hco:codeOk P c=true:=by unfold oZ at hok;rw [hb] at hok;simp only [DJ] at hok;exact hok.2
  cases hc:codeA P C c (args++List.replicate (fn.ntmps-args.length) undef) h with
  |none=>rw [hc] at he;cases he
  |some y=>
   obtain ⟨ex,e1,h2⟩:=y;rw [hc] at he;have hr:resultsA P fn.results.toList e1 h2=some (v,h'):=by
    cases ex with
    |normal=>exact he
    |ret=>exact he
    |exit i=>cases he
   obtain ⟨h3,h4⟩:=dC hC c hco hg (bV hba (dH.2 fun x hx=>by rw [F6 hx];rfl)) hbh hc;exact wu h4 h3 hr
end
def bare (P:Program):ad:=⟨P.globals.size,fun _=>none,.nil,0⟩
end
end Go.Abs
