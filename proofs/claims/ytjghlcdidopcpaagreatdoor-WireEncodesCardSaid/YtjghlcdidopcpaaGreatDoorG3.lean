/-
  A part of the proof, spaces and names shortened by a program (a claim may hold 1,500,000 bytes).
  Conditions: as each theorem states.
-/
import Derived.Test.YtjghlcdidopcpaaGreatDoorG2
import Derived.LoopN
namespace Go.Abs
def cz (h h':ak):Prop:=h.next≤h'.next∧h'.n0=h.n0∧h'.bm=h.bm
theorem cz.refl (h:ak):cz h h:=⟨Nat.le_refl _,rfl,rfl⟩
theorem cz.trans {a b c:ak} (x:cz a b) (y:cz b c):cz a c:=⟨Nat.le_trans x.1 y.1,y.2.1.trans x.2.1,y.2.2.trans x.2.2⟩
theorem cz.alloc (h:ak) (k:dA):cz h (h.alloc k):=⟨by simp,rfl,rfl⟩
theorem cz.kill_alloc (h:ak) (b:Nat) (k:dA):cz h ((h.kill b).alloc k):=⟨by simp,rfl,rfl⟩
theorem cz.of_stL {b off:Nat} {xs:List Value} {h h':ak} (e:stL b off xs h=some h'):cz h h':=by
 unfold stL at e
 split at e
 ·split at e
  ·cases e;exact ⟨Nat.le_refl _,rfl,rfl⟩
  ·cases e
 ·cases e
section ops
variable {P:Program} {C:av} {h h':ak} {v:Value}
theorem grow_append {size by_:Nat} {s x:Value} (e:aO size by_ s x h=some (v,h')):cz h h':=by
 unfold aO at e
 repeat' split at e
 all_goals first
  | (cases e;done)
  | (simp only [Option.some.injEq,Prod.mk.injEq] at e;obtain ⟨_,rfl⟩:=e;first|exact cz.refl _|exact cz.alloc _ _|exact cz.kill_alloc _ _ _)
  | (simp only [Option.map_eq_some_iff,Prod.mk.injEq] at e;obtain ⟨h1,hs,_,rfl⟩:=e;exact cz.of_stL hs)
theorem grow_copy {size:Nat} {s x:Value} (e:copyA size s x h=some (v,h')):cz h h':=by
 unfold copyA at e
 simp only at e
 repeat' split at e
 all_goals first
  | (cases e;done)
  | (simp only [Option.some.injEq,Prod.mk.injEq] at e;obtain ⟨_,rfl⟩:=e;exact cz.refl _)
  | (simp only [Option.map_eq_some_iff,Prod.mk.injEq] at e;obtain ⟨h1,hs,_,rfl⟩:=e;exact cz.of_stL hs)
theorem grow_clear {size:Nat} {t:TypeId} {s:Value} (e:clearA P t size s h=some (v,h')):cz h h':=by
 unfold clearA at e
 repeat' split at e
 all_goals first
  | (cases e;done)
  | (simp only [Option.some.injEq,Prod.mk.injEq] at e;obtain ⟨_,rfl⟩:=e;exact cz.refl _)
  | (simp only [Option.map_eq_some_iff,Prod.mk.injEq] at e;obtain ⟨h1,hs,_,rfl⟩:=e;exact cz.of_stL hs)
theorem grow_builtin {b:Builtin} {ts:List TypeId} {args:List Value} (e:builtinA P b ts args h=some (v,h')):cz h h':=by
 unfold builtinA at e
 split at e
 ·repeat' split at e
  all_goals first
   | (cases e;done)
   |exact grow_append e
 ·split at e
  ·simp only [Option.bind_eq_some_iff] at e;obtain ⟨n,_,e⟩:=e;exact grow_copy e
  ·cases e
 ·split at e
  ·simp only [Option.bind_eq_some_iff] at e;obtain ⟨n,_,e⟩:=e;exact grow_clear e
  ·cases e
 ·simp only [Option.map_eq_some_iff,Prod.mk.injEq] at e;obtain ⟨_,_,_,rfl⟩:=e;exact cz.refl _
 ·simp only [Option.map_eq_some_iff,Prod.mk.injEq] at e;obtain ⟨_,_,_,rfl⟩:=e;exact cz.refl _
 ·simp only [Option.map_eq_some_iff,Prod.mk.injEq] at e;obtain ⟨_,_,_,rfl⟩:=e;exact cz.refl _
 ·cases e
theorem opA_grow (hC:bH P C) {o:Oper} {ρ:Operand→Value} (e:opA P C o ρ h=some (v,h')):cz h h':=by
 have pure_of : ∀ {r:Option Value},r.map (fun v=>(v,h))=some (v,h')→cz h h':=by
  intro r e
  simp only [Option.map_eq_some_iff,Prod.mk.injEq] at e
  obtain ⟨x,_,_,rfl⟩:=e
  exact cz.refl _
 unfold opA at e
 simp only at e
 split at e
 ·cases e;exact cz.refl _
 ·cases e;exact cz.refl _
 ·split at e
  ·cases e;exact cz.refl _
  ·cases e
 ·unfold zero at e
  repeat' split at e
  all_goals first
   | (cases e;done)
   | (simp only [newRow,Option.some.injEq,Prod.mk.injEq] at e;obtain ⟨_,rfl⟩:=e;exact cz.alloc _ _)
 ·unfold box at e
  split at e
  ·simp only [newRow,Option.some.injEq,Prod.mk.injEq] at e;obtain ⟨_,rfl⟩:=e;exact cz.alloc _ _
  ·cases e
 ·exact pure_of e
 ·unfold ey at e
  repeat' split at e
  all_goals first
   | (cases e;done)
   | (simp only [Option.some.injEq,Prod.mk.injEq] at e;obtain ⟨_,rfl⟩:=e;exact cz.alloc _ _)
 ·unfold ld at e
  split at e
  ·unfold bP at e
   repeat' split at e
   all_goals first
    | (cases e;done)
    | (simp only [Option.some.injEq,Prod.mk.injEq] at e;obtain ⟨_,rfl⟩:=e;exact cz.refl _)
  ·unfold aK at e
   repeat' split at e
   all_goals first
    | (cases e;done)
    | (simp only [Option.some.injEq,Prod.mk.injEq] at e;obtain ⟨_,rfl⟩:=e;exact cz.refl _)
  ·cases e
 ·unfold st at e
  split at e
  ·unfold dH at e
   split at e
   ·split at e
    ·simp only [Option.map_eq_some_iff,Prod.mk.injEq] at e;obtain ⟨h1,hs,_,rfl⟩:=e;exact cz.of_stL hs
    ·cases e
   ·cases e
  ·cases e
 ·exact pure_of e
 ·exact pure_of e
 ·exact pure_of e
 ·unfold convA at e
  split at e
  ·cases e;exact cz.refl _
  ·cases e;exact cz.refl _
  ·repeat' split at e
   all_goals first
    | (cases e;done)
    | (simp only [Option.some.injEq,Prod.mk.injEq] at e;obtain ⟨_,rfl⟩:=e;exact cz.alloc _ _)
  ·repeat' split at e
   all_goals first
    | (cases e;done)
    | (cases e;exact cz.refl _)
  ·repeat' split at e
   all_goals first
    | (cases e;done)
    | (cases e;exact cz.refl _)
  ·cases e
 ·unfold makeA at e
  repeat' split at e
  all_goals first
   | (cases e;done)
   | (simp only [Option.some.injEq,Prod.mk.injEq] at e;obtain ⟨_,rfl⟩:=e;exact cz.alloc _ _)
 ·exact pure_of e
 ·exact pure_of e
 ·exact pure_of e
 ·exact pure_of e
 ·exact pure_of e
 ·exact pure_of e
 ·cases e;exact cz.refl _
 ·exact pure_of e
 ·split at e
  ·exact grow_builtin e
  ·unfold callA at e
   split at e
   ·exact hC.grow _ _ _ _ _ e
   ·cases e
  ·cases e
 ·cases e
theorem opA_bd (hC:bH P C) {o:Oper} {ρ:Operand→Value} (hb:bc h) (hρ : ∀ x∈o.op.operands.toList,cU h.next (ρ x)=true) (e:opA P C o ρ h=some (v,h')):cU h'.next v=true∧bc h':=by
 have pure_of : ∀ {r:Option Value},(∀ v,r=some v→cU h.next v=true)→r.map (fun v=>(v,h))=some (v,h')→cU h'.next v=true∧bc h':=by
  intro r hr e
  simp only [Option.map_eq_some_iff,Prod.mk.injEq] at e
  obtain ⟨x,rfl,rfl,rfl⟩:=e
  exact ⟨hr x rfl,hb⟩
 have hop : ∀ op,o.op=op→(∀ x∈op.operands.toList,cU h.next (ρ x)=true):=fun op h=>h▸hρ
 have hparts : ∀ {parts:Array (Nat×Operand)},(∀ x∈parts.toList.map (·.2),cU h.next (ρ x)=true) → ∀ p∈parts.toList.map (fun (i,x)=>(i,ρ x)),cU h.next p.2=true:=by
  intro parts hp p hm
  obtain ⟨q,hq,rfl⟩:=List.mem_map.1 hm
  exact hp q.2 (List.mem_map.2 ⟨q,hq,rfl⟩)
 unfold opA at e
 simp only at e
 split at e
 ·rename_i x heq;cases e;exact ⟨hop _ heq x (by simp [Op.operands]),hb⟩
 ·rename_i x heq;cases e;exact ⟨hop _ heq x (by simp [Op.operands]),hb⟩
 ·rename_i c x y heq
  split at e
  ·rename_i t _
   cases e
   refine ⟨?_,hb⟩
   cases t
   ·exact hop _ heq y (by simp [Op.operands])
   ·exact hop _ heq x (by simp [Op.operands])
  ·cases e
 ·unfold zero at e
  split at e
  ·split at e
   ·rename_i hf
    simp only [newRow,Option.some.injEq,Prod.mk.injEq] at e
    obtain ⟨rfl,rfl⟩:=e
    exact ⟨by simp [cU,ptr],hb.alloc (fD hf)⟩
   ·cases e
  ·cases e
 ·rename_i t x heq
  unfold box at e
  split at e
  ·simp only [newRow,Option.some.injEq,Prod.mk.injEq] at e
   obtain ⟨rfl,rfl⟩:=e
   exact ⟨by simp [cU,ptr],hb.alloc (dm (Nat.le_succ _) (bdL_cells (hop _ heq x (by simp [Op.operands]))))⟩
  ·cases e
 ·rename_i t parts heq
  exact pure_of (fun v hv=>bd_build (hparts fun x hx=>hop _ heq x (by simpa [Op.operands] using hx)) hv) e
 ·rename_i t len parts heq
  exact bd_buildSlice hb (hparts fun x hx=>hop _ heq x (by simpa [Op.operands] using hx)) e
 ·exact bd_ld hb e
 ·rename_i t x y heq
  exact bd_st hb (hop _ heq y (by simp [Op.operands])) e
 ·rename_i x heq
  exact pure_of (fun v hv=>bd_nil (hop _ heq x (by simp [Op.operands])) hv) e
 ·exact pure_of (fun v hv=>bdV_flat (bin_flat hv)) e
 ·exact pure_of (fun v hv=>bdV_flat (un_flat hv)) e
 ·rename_i s d x heq
  exact bd_conv hb (hop _ heq x (by simp [Op.operands])) e
 ·exact bd_make hb e
 ·rename_i t x lo hi mx heq
  exact pure_of (fun v hv=>bd_slice (hop _ heq x (by simp [Op.operands])) hv) e
 ·rename_i t x i heq
  exact pure_of (fun v hv=>bd_fieldAt (hop _ heq x (by simp [Op.operands])) hv) e
 ·rename_i t x i heq
  exact pure_of (fun v hv=>bd_field (hop _ heq x (by simp [Op.operands])) hv) e
 ·rename_i t x i heq
  exact pure_of (fun v hv=>bd_indexAt (hop _ heq x (by simp [Op.operands])) hv) e
 ·rename_i t x i heq
  exact pure_of (fun v hv=>bd_index (hop _ heq x (by simp [Op.operands])) hv) e
 ·rename_i x i heq
  exact pure_of (fun v hv=>bd_extract (hop _ heq x (by simp [Op.operands])) hv) e
 ·rename_i f first captured heq
  obtain ⟨rfl,rfl⟩:Value.func f (first.map ρ) (captured.map ρ)=v∧h=h':=by simpa using e
  refine ⟨?_,hb⟩
  have key : ∀ l:Array Operand,(∀ x∈l,cU h.next (ρ x)=true)→dy h.next (l.map ρ).toList=true:=fun l hl=>by
   rw [dh]
   intro y hy
   rw [Array.toList_map] at hy
   obtain ⟨x,hx,rfl⟩:=List.mem_map.1 hy
   exact hl x (Array.mem_toList_iff.1 hx)
  show (dy h.next (first.map ρ).toList&&dy h.next (captured.map ρ).toList)=true
  rw [key first (fun x hx=>hop _ heq x (by simp only [Op.operands,Array.toList_append,List.mem_append];exact .inl (Array.mem_toList_iff.2 hx))),key captured (fun x hx=>hop _ heq x (by simp only [Op.operands,Array.toList_append,List.mem_append];exact .inr (Array.mem_toList_iff.2 hx)))]
  rfl
 ·rename_i t x heq
  refine pure_of (fun v hv => ?_) e
  unfold ifaceA at hv
  split at hv
  ·cases hv
  ·cases hv
   exact hop _ heq x (by simp [Op.operands])
  ·cases hv
 ·rename_i c heq
  have hargs:dy h.next (c.args.toList.map ρ)=true:=by
   rw [dh]
   intro y hy
   obtain ⟨x,hx,rfl⟩:=List.mem_map.1 hy
   exact hop _ heq x (by simp only [Op.operands,Call.operands,Array.toList_append,List.mem_append];exact .inr hx)
  split at e
  ·exact bd_builtin hb hargs e
  ·rename_i f hcv
   unfold callA at e
   split at e
   ·rename_i i first captured hfe
    have hff:=hop _ heq f (by simp [Op.operands,Call.operands,hcv])
    rw [hfe] at hff
    obtain ⟨lf⟩:=first
    obtain ⟨lc⟩:=captured
    simp only [cU,Bool.and_eq_true] at hff
    exact hC.bd _ _ _ _ _ e (dq (dq hff.1 hargs) hff.2) hb
   ·cases e
  ·cases e
 ·cases e
theorem bd_putD {n:Nat} {e:Env} {d:Option Tmp} {v:Value} (he:dy n e=true) (hv:cU n v=true):dy n (eG e d v)=true:=by
 cases d with
 |none=>exact he
 |some t=>exact bdL_set he hv
theorem bd_ev {e:Env} {x:Operand} {h:ak} (hg:P.globals.size≤h.n0) (he:dy h.next e=true) (hx:opdOk P x=true):cU h.next (ev e x)=true:=by
 cases x with
 |tmp t=>exact bdL_getD he
 |const v=>exact bdV_flat hx
 |global g=>
  have hlt:g<P.globals.size:=by simpa [opdOk] using hx
  have:=h.bg
  simp only [ev,ptr,cU,decide_eq_true_eq]
  omega
 |func f=>rfl
def ERel (μ:Mu) (e:Env) (a:Act):Prop:=bp μ e a.tmps.toList∧a.defers = []
theorem ERel.mono {μ μ':Mu} {e:Env} {a:Act} (r:ERel μ e a) (hm : ∀ b L,μ b=some L→μ' b=some L):ERel μ' e a:=⟨r.1.mono hm,r.2⟩
theorem ERel.put {μ:Mu} {e:Env} {a:Act} (r:ERel μ e a) (d:Option Tmp) {x y:Value} (hv:aQ μ x y):ERel μ (eG e d x) (a.put d y):=by
 cases d with
 |none=>exact r
 |some t=>
  refine ⟨?_,r.2⟩
  simp only [eG,Act.put]
  rw [Array.toList_setIfInBounds]
  exact r.1.set t hv
theorem ev_rel {μ:Mu} {h:ak} {w:World} {e:Env} {a:Act} (S:de μ h w) (hg:P.globals.size≤h.n0) (r:ERel μ e a) {x:Operand} (hx:opdOk P x=true):aQ μ (ev e x) (a.eval x):=by
 cases x with
 |tmp t=>
  have:=r.1.getD t
  simpa [ev,Act.eval] using this
 |const v=>exact .flat hx
 |global g=>
  have hlt:g<P.globals.size:=by simpa [opdOk] using hx
  obtain ⟨L,hL,hB,hO⟩:=S.low g (by omega)
  have:=aQ.ptr (off:=0) hL
  rw [hB,hO] at this
  exact this
 |func f=>exact .flat rfl
theorem yield_rel {μ:Mu} {ops:Array Oper} {e:Env} {a:Act} (r:ERel μ e a) (j:Nat):fH ops e j=yielded ops a.tmps j:=by
 unfold fH yielded
 cases hd:(ops[j]?).bind (·.dst) with
 |none=>rfl
 |some t=>
  simp only [Option.bind_some]
  cases hx:e[t]? with
  |none=>
   have:a.tmps[t]? = none:=by
    have h1:=r.1.1
    have h2:a.tmps.toList.length=a.tmps.size:=Array.length_toList
    rw [List.getElem?_eq_none_iff] at hx
    rw [Array.getElem?_eq_none_iff]
    omega
   rw [this]
  |some x=>
   obtain ⟨y,hy,hv⟩:=r.1.get hx
   have hy':a.tmps[t]? = some y:=by simpa using hy
   rw [hy']
   cases hv with
   |flat h=>rfl
   |_=>rfl
theorem want_rel {μ:Mu} {ops:Array Oper} {o:Oper} {e:Env} {a:Act} (r:ERel μ e a):wantA ops o e=Region.wanted o (yielded ops a.tmps):=by
 unfold wantA Region.wanted
 cases o.guard with
 |none=>rfl
 |some p=>obtain ⟨j,b⟩:=p;simp only;rw [yield_rel r j]
def Behind (μ:Mu) (h:ak) (w:World) (e':Env) (h':ak) (a':Act) (w':World):Prop:=
 ∃ μ',de μ' h' w'∧Step μ h w μ' h' w'∧ERel μ' e' a'
theorem opsA_sound (hC:bH P C) {ops:Array Oper} {Q:Exit→Act→World→Prop} : ∀ (l:List Oper) (k:Nat) {μ:Mu} {e e':Env} {h h':ak} {a:Act} {w:World},ops.toList.drop k=l→l.all (operOk P)=true →
  opsA P C ops l e h=some (e',h')→P.globals.size≤h.n0→dy h.next e=true→bc h→de μ h w→ft μ h h'→ERel μ e a→(∀ a' w',Behind μ h w e' h' a' w'→Q .normal a' w')→wpOps P ops Q (List.range' k l.length) a w
 | [],k,μ,e,e',h,h',a,w,_,_,he,_,_,_,S,_,r,hQ=>by
   simp only [opsA,Option.some.injEq,Prod.mk.injEq] at he
   obtain ⟨rfl,rfl⟩:=he
   simp only [List.length_nil,List.range'_zero,wpOps]
   exact hQ a w ⟨μ,S,.cN,r⟩
 |o::l,k,μ,e,e',h,h',a,w,hd,hok,he,hg,hbe,hbh,S,hf,r,hQ=>by
  simp only [opsA] at he
  simp only [List.all_cons,Bool.and_eq_true] at hok
  have hko:ops[k]? = some o:=by
   have:ops.toList[k]? = some o:=by
    have:=congrArg (fun l=>l[0]?) hd
    simpa using this
   simpa using this
  have hd':ops.toList.drop (k+1)=l:=by
   have:=congrArg (List.drop 1) hd
   rw [List.drop_drop] at this
   simpa [Nat.add_comm] using this
  split at he
  ·rename_i e1 h1 hs
   unfold stepA at hs
   simp only [List.length_cons,List.range'_succ,wpOps,hko,want_rel (ops:=ops) r] at hs ⊢
   by_cases hw:Region.wanted o (yielded ops a.tmps)=true
   ·rw [if_pos hw] at hs ⊢
    split at hs
    ·rename_i v h1' hop
     simp only [Option.some.injEq,Prod.mk.injEq] at hs
     obtain ⟨rfl,rfl⟩:=hs
     have hgr:=opA_grow hC hop
     have hgr2 : ∀ (l:List Oper) {e e':Env} {h h':ak},opsA P C ops l e h=some (e',h')→cz h h':=by
      intro l
      induction l with
      |nil=>intro e e' h h' he;simp only [opsA,Option.some.injEq,Prod.mk.injEq] at he;obtain ⟨_,rfl⟩:=he;exact cz.refl _
      |cons o l ih=>
       intro e e' h h' he
       simp only [opsA] at he
       split at he
       ·rename_i e1 h1 hs
        unfold stepA at hs
        split at hs
        ·split at hs
         ·rename_i v hv hop;cases hs;exact (opA_grow hC hop).trans (ih he)
         ·cases hs
        ·cases hs;exact ih he
       ·cases he
     have hgr3:=hgr2 _ he
     have hbo : ∀ x∈o.op.operands.toList,cU h.next (ev e x)=true:=fun x hx=>bd_ev hg hbe (List.all_eq_true.1 hok.1 x hx)
     obtain ⟨hbv,hbh1⟩:=opA_bd hC hbh hbo hop
     refine .inl (opA_sound hC (ρ:=ev e) S (hf.first hgr3.1) (fun x hx=>ev_rel S hg r (List.all_eq_true.1 hok.1 x hx)) hg (fun _ _ _ _=>⟨hbo,hbh⟩) hop _ _ ?_)
     intro μ1 v' w1 hS hSt hv
     refine opsA_sound hC l (k+1) hd' hok.2 he (by rw [hgr.2.1];exact hg) (bd_putD (dm hgr.1 hbe) hbv) hbh1 hS (hf.second hSt) ((r.mono (hSt.mono (hf.first hgr3.1))).put o.dst hv) ?_
     rintro a' w' ⟨μ2,hS2,hSt2,r2⟩
     exact hQ a' w' ⟨μ2,hS2,hSt.trans hSt2,r2⟩
    ·cases hs
   ·rw [if_neg hw] at hs ⊢
    simp only [Option.some.injEq,Prod.mk.injEq] at hs
    obtain ⟨rfl,rfl⟩:=hs
    exact opsA_sound hC l (k+1) hd' hok.2 he hg (bd_putD hbe rfl) hbh S hf (r.put o.dst undef_rel) hQ
  ·cases he
theorem region_seq_sound (hC:bH P C) {id:Nat} {ops:Array Oper} {Q:Exit→Act→World→Prop} {μ:Mu} {e e':Env} {h h':ak} {a:Act} {w:World} (hok:ops.toList.all (operOk P)=true)
  (he:opsA P C ops ops.toList e h=some (e',h')) (hg:P.globals.size≤h.n0) (hbe:dy h.next e=true) (hbh:bc h) (S:de μ h w) (hf:ft μ h h') (r:ERel μ e a) (hQ : ∀ a' w',Behind μ h w e' h' a' w'→Q .normal a' w') :
  (Code.region id ops false).wp P Q a w:=by
 refine wp_region ?_
 have:=opsA_sound hC (ops:=ops) (Q:=Q) ops.toList 0 rfl hok he hg hbe hbh S hf r hQ
 rwa [Array.length_toList,←List.range_eq_range'] at this
end ops
end Go.Abs

namespace Go.Abs
def Sub (h G:ak):Prop:=h.n0=G.n0∧h.bm=G.bm ∧ ∀ b k,h.n0≤b→h.get b=some k→G.get b=some k
theorem de.sub {μ:Mu} {h G:ak} {w:World} (s:de μ G w) (hs:Sub h G):de μ h w:=by
 obtain ⟨h1,h2,h3⟩:=hs
 refine ⟨?_,?_,?_,?_,?_⟩
 ·rw [h1,h2];exact s.bm
 ·intro b k hb hg
  have:=s.new b k (h1▸hb) (h3 b k hb hg)
  rw [h1];exact this
 ·intro b b' k k' L L' hb hb' hne hg hg'
  exact s.inj b b' k k' L L' (h1▸hb) (h1▸hb') hne (h3 _ _ hb hg) (h3 _ _ hb' hg')
 ·rw [h1];exact s.size
 ·rw [h1];exact s.low
theorem Own.sub {μ:Mu} {h G:ak} {B:Nat} (o:Own μ h B) (hs:Sub h G):Own μ G B:=by
 obtain ⟨b,k,L,h1,h2,h3,h4⟩:=o
 exact ⟨b,k,L,hs.1▸h1,hs.2.2 b k h1 h2,h3,h4⟩
structure Framed (G h h1 G':ak):Prop where
 n0:G'.n0=G.n0
 bm:G'.bm=G.bm
 get : ∀ b k,G'.n0≤b→G'.get b=some k→h1.get b=some k∨(G.get b=some k∧h.get b=none∧(b<h.next∨h1.next≤b))
theorem de.frame {μ μ1:Mu} {G h h1 G':ak} {w w1:World} (s:de μ G w) (hs:Sub h G) (st:Step μ h w μ1 h1 w1) (s1:de μ1 h1 w1) (hf:ft μ h h1) (fr:Framed G h h1 G'):de μ1 G' w1:=by
 have hm:=st.mono hf
 have hn0:h1.n0=G.n0:=st.n0.trans hs.1
 have key : ∀ b k,G.n0≤b→G.get b=some k→h.get b=none→(b<h.next∨h1.next≤b) → ∃ L,μ b=some L∧μ1 b=some L ∧ ¬Own μ h L.blk∧L.blk<w.heap.size∧Holds μ1 w1 G.n0 b k:=by
  intro b k hb hg hn hr
  obtain ⟨L,arr,T,f,h2,h3,h4,h5,h6,h7,h8,h9⟩:=s.new b k hb hg
  have hno : ¬Own μ h L.blk:=by
   rintro ⟨c,kc,Lc,c1,c2,c3,c4⟩
   refine s.inj b c k kc L Lc hb (hs.1▸c1) ?_ hg (hs.2.2 c kc c1 c2) h2 c3 c4.symm
   rintro rfl
   rw [hn] at c2;cases c2
  have hlt:L.blk<w.heap.size:=(Array.getElem?_eq_some_iff.1 h4).1
  have hμ:μ1 b=some L:=by rw [st.ext b hr];exact h2
  exact ⟨L,h2,hμ,hno,hlt,L,arr,T,f,hμ,h3,by rw [st.same _ hlt hno];exact h4,h5,h6,h7,h8,h9.mono hm⟩
 refine ⟨?_,?_,?_,?_,?_⟩
 ·intro b cs hb hc
  rw [fr.n0] at hb
  rw [fr.bm] at hc
  exact s1.bm b cs (hn0▸hb) (by rw [st.bm,hs.2.1];exact hc)
 ·intro b k hb hg
  rcases fr.get b k hb hg with h2|⟨h2,h3,h4⟩
  ·have:=s1.new b k (by rw [hn0,←fr.n0];exact hb) h2
   rw [fr.n0,←hn0];exact this
  ·obtain ⟨_,_,_,_,_,hh⟩:=key b k (fr.n0▸hb) h2 h3 h4
   rw [fr.n0];exact hh
 ·intro b b' k k' L L' hb hb' hne hg hg' hL hL'
  have hb0:G.n0≤b:=fr.n0▸hb
  have hb0':G.n0≤b':=fr.n0▸hb'
  have cross : ∀ {b b':Nat} {k k':dA} {L L':Loc},G.n0≤b→G.n0≤b'→h1.get b=some k→μ1 b=some L→G.get b'=some k'→h.get b'=none→(b'<h.next∨h1.next≤b')→μ1 b'=some L'→L.blk≠L'.blk:=by
   intro b b' k k' L L' c0 c0' c1 c2 c3 c4 c5 c6 heq
   obtain ⟨L2,g1,g2,g3,g4,_⟩:=key b' k' c0' c3 c4 c5
   rw [g2] at c6;cases c6
   rcases st.own L.blk ⟨b,k,L,by rw [hn0];exact c0,c1,c2,rfl⟩ with h6|h6
   ·exact g3 (heq▸h6)
   ·omega
  rcases fr.get b k hb hg with h2|⟨h2,h3,h4⟩
  ·rcases fr.get b' k' hb' hg' with h2'|⟨h2',h3',h4'⟩
   ·exact s1.inj b b' k k' L L' (by rw [hn0];exact hb0) (by rw [hn0];exact hb0') hne h2 h2' hL hL'
   ·exact cross hb0 hb0' h2 hL h2' h3' h4' hL'
  ·rcases fr.get b' k' hb' hg' with h2'|⟨h2',h3',h4'⟩
   ·exact (cross hb0' hb0 h2' hL' h2 h3 h4 hL).symm
   ·rw [st.ext b h4] at hL
    rw [st.ext b' h4'] at hL'
    exact s.inj b b' k k' L L' hb0 hb0' hne h2 h2' hL hL'
 ·rw [fr.n0,←hn0];exact s1.size
 ·rw [fr.n0,←hn0];exact s1.low
theorem Step.frame {μ0 μ μ1:Mu} {h0 G h h1 G':ak} {w0 w w1:World} (st0:Step μ0 h0 w0 μ G w) (hs:Sub h G) (st:Step μ h w μ1 h1 w1) (fr:Framed G h h1 G') (hn:G'.next=G.next)
  (hlo:h0.next≤h.next) (hhi:h1.next≤G.next):Step μ0 h0 w0 μ1 G' w1 where
 ext b hb:=by
  rw [hn] at hb
  rw [st.ext b (by omega),st0.ext b hb]
 n0:=fr.n0.trans st0.n0
 bm:=fr.bm.trans st0.bm
 next:=by rw [hn];exact st0.next
 os:=st.os.trans st0.os
 tape:=st.tape.trans st0.tape
 output:=st.output.trans st0.output
 size:=Nat.le_trans st0.size st.size
 same B hB hO:=by
  rw [st.same B (Nat.lt_of_lt_of_le hB st0.size) (fun ho=>(st0.own B (ho.sub hs)).elim hO (fun h2=>by omega))]
  exact st0.same B hB hO
 own:=by
  rintro B ⟨b,k,L,hb,hg,hL,rfl⟩
  rcases fr.get b k hb hg with h2|⟨h2,h3,h4⟩
  ·rcases st.own L.blk ⟨b,k,L,by rw [st.n0,hs.1,←fr.n0];exact hb,h2,hL,rfl⟩ with h5|h5
   ·exact st0.own _ (h5.sub hs)
   ·exact .inr (Nat.le_trans st0.size h5)
  ·rw [st.ext b h4] at hL
   exact st0.own _ ⟨b,k,L,fr.n0▸hb,h2,hL,rfl⟩
def heapOf (n0:Nat) (bm:Nat→Option (List Value)) (g:Nat→Option dA):Nat→ak
 | 0=>⟨n0,bm,.nil,0⟩
 |i+1=>match g (n0+i) with
  |some k=>(heapOf n0 bm g i).alloc k
  |none=>((heapOf n0 bm g i).alloc []).kill (n0+i)
theorem heapOf_spec (n0:Nat) (bm:Nat→Option (List Value)) (g:Nat→Option dA) : ∀ i,(heapOf n0 bm g i).n0=n0∧(heapOf n0 bm g i).bm=bm∧(heapOf n0 bm g i).next=n0+i ∧
  ∀ b,n0≤b→(heapOf n0 bm g i).get b=if b<n0+i then g b else none
 | 0=>by
   refine ⟨rfl,rfl,rfl,fun b hb => ?_⟩
   simp [heapOf,ak.get,Nat.not_lt.2 hb]
 |i+1=>by
  obtain ⟨h1,h2,h3,h4⟩:=heapOf_spec n0 bm g i
  unfold heapOf
  cases hg:g (n0+i) with
  |some k=>
   refine ⟨h1,h2,by simp [h3];omega,fun b hb => ?_⟩
   simp only
   rw [ak.aM,h3]
   by_cases e:b=n0+i
   ·subst e;simp [hg]
   ·rw [if_neg e,h4 b hb]
    by_cases e2:b<n0+i
    ·rw [if_pos e2,if_pos (by omega)]
    ·rw [if_neg e2,if_neg (by omega)]
  |none=>
   refine ⟨h1,h2,by simp [h3];omega,fun b hb => ?_⟩
   simp only
   unfold ak.kill
   rw [ak.get_put _ (by simp [h1]) (by simp [h3]),ak.aM,h3]
   by_cases e:b=n0+i
   ·subst e;simp [hg]
   ·rw [if_neg e,if_neg e,h4 b hb]
    by_cases e2:b<n0+i
    ·rw [if_pos e2,if_pos (by omega)]
    ·rw [if_neg e2,if_neg (by omega)]
def befStep (acc:Array Nat) (o:Oper):Nat:=o.after.foldl (fun s e=>if Region.binds .any e then s ||| 2^e.on ||| acc.getD e.on 0 else s) 0
theorem befStep_bit {acc:Array Nat} {o:Oper} {j:Nat} (h:(befStep acc o).testBit j=true) : ∃ e∈o.after.toList,Region.binds .any e=true∧(e.on=j∨(acc.getD e.on 0).testBit j=true):=by
 unfold befStep at h
 rw [←Array.foldl_toList] at h
 have key : ∀ (l:List Edge) (s:Nat),(l.foldl (fun s e=>if Region.binds .any e then s ||| 2^e.on ||| acc.getD e.on 0 else s) s).testBit j=true →
   s.testBit j=true ∨ ∃ e∈l,Region.binds .any e=true∧(e.on=j∨(acc.getD e.on 0).testBit j=true):=by
  intro l
  induction l with
  |nil=>intro s h;exact .inl h
  |cons x l ih=>
   intro s h
   rw [List.foldl_cons] at h
   rcases ih _ h with h1|⟨e,he,h1⟩
   ·split at h1
    ·rename_i hb
     rw [Nat.testBit_or,Nat.testBit_or,Nat.testBit_two_pow] at h1
     simp only [Bool.or_eq_true,decide_eq_true_eq] at h1
     rcases h1 with (h1|h1)|h1
     ·exact .inl h1
     ·exact .inr ⟨x,by simp,hb,.inl h1⟩
     ·exact .inr ⟨x,by simp,hb,.inr h1⟩
    ·exact .inl h1
   ·exact .inr ⟨e,by simp [he],h1⟩
 rcases key _ _ h with h|h
 ·simp at h
 ·exact h
theorem before_foldl : ∀ (l:List Oper) (acc:Array Nat),∃ r:Array Nat,l.foldl (fun acc o=>acc.push (befStep acc o)) acc=r∧r.size=acc.size+l.length∧(∀ i,i<acc.size→r.getD i 0=acc.getD i 0) ∧
  ∀ i o,l[i]? = some o → ∃ acc':Array Nat,acc'.size=acc.size+i∧(∀ k,k<acc'.size→acc'.getD k 0=r.getD k 0)∧r.getD (acc.size+i) 0=befStep acc' o
 | [],acc=>⟨acc,rfl,rfl,fun _ _=>rfl,by simp⟩
 |o::l,acc=>by
  obtain ⟨r,h1,h2,h3,h4⟩:=before_foldl l (acc.push (befStep acc o))
  have hp : ∀ i,i<acc.size→(acc.push (befStep acc o)).getD i 0=acc.getD i 0:=by
   intro i hi
   simp [Array.getElem?_push,Nat.ne_of_lt hi]
  have hp2:(acc.push (befStep acc o)).getD acc.size 0=befStep acc o:=by simp
  refine ⟨r,by rw [List.foldl_cons];exact h1,by rw [h2];simp;omega,fun i hi=>by rw [h3 i (by simp;omega),hp i hi],?_⟩
  intro i u hu
  cases i with
  |zero=>
   simp only [List.getElem?_cons_zero,Option.some.injEq] at hu
   subst hu
   refine ⟨acc,rfl,fun k hk => ?_,?_⟩
   ·rw [h3 k (by simp;omega),hp k hk]
   ·rw [Nat.add_zero,h3 _ (by simp),hp2]
  |succ i=>
   obtain ⟨acc',g1,g2,g3⟩:=h4 i u (by simpa using hu)
   refine ⟨acc',by rw [g1];simp;omega,g2,?_⟩
   rw [←g3]
   congr 1
   simp;omega
theorem before_spec {ops:Array Oper} {i j:Nat} {o:Oper} (ho:ops[i]? = some o) (h:eJ (fi ops) i j=true) :
  ∃ e∈o.after.toList,Region.binds .any e=true∧(e.on=j∨(e.on<i∧eJ (fi ops) e.on j=true)):=by
 unfold eJ fi Region.before at h
 rw [←Array.foldl_toList] at h
 obtain ⟨r,h1,h2,h3,h4⟩:=before_foldl ops.toList #[]
 have hr:(Array.foldl (fun acc o=>acc.push (o.after.foldl (fun s e=>if Region.binds .any e then s ||| 2^e.on ||| acc.getD e.on 0 else s) 0)) #[] ops)=r:=by
  rw [←Array.foldl_toList];exact h1
 obtain ⟨acc',g1,g2,g3⟩:=h4 i o (by simpa using ho)
 simp only [List.size_toArray,List.length_nil,Nat.zero_add] at g1 g3
 have hb:(befStep acc' o).testBit j=true:=by
  rw [←g3]
  exact h1▸h
 obtain ⟨e,he,hbind,hor⟩:=befStep_bit hb
 refine ⟨e,he,hbind,hor.imp id fun hj => ?_⟩
 have hlt:e.on<i:=by
  rcases Nat.lt_or_ge e.on i with h5|h5
  ·exact h5
  ·have:acc'.getD e.on 0=0:=by simp [Array.getElem?_eq_none (show acc'.size≤e.on by omega)]
   rw [this] at hj;simp at hj
 refine ⟨hlt,?_⟩
 unfold eJ fi Region.before
 rw [hr,←g2 e.on (by omega)]
 exact hj
theorem before_closed {ops:Array Oper} {X:Nat→Prop} (hX : ∀ i o,X i→ops[i]? = some o → ∀ e∈o.after.toList,Region.binds .any e=true→X e.on) :
  ∀ (i:Nat) (o:Oper),ops[i]? = some o→(∀ e∈o.after.toList,Region.binds .any e=true→X e.on)→(∀ k,X k→(ops[k]?).isSome) → ∀ j,eJ (fi ops) i j=true→X j:=by
 intro i
 induction i using Nat.strongRecOn with
 |_ i ih=>
  intro o ho hd hs j hj
  obtain ⟨e,he,hb,hor⟩:=before_spec ho hj
  rcases hor with rfl|⟨hlt,hj2⟩
  ·exact hd e he hb
  ·have hx:=hd e he hb
   obtain ⟨o2,ho2⟩:=Option.isSome_iff_exists.1 (hs _ hx)
   exact ih e.on hlt o2 ho2 (hX _ _ hx ho2) hs j hj2
end Go.Abs

namespace Go.Abs
section kinds
variable {P:Program} {C:av} {o:Oper} {ρ:Operand→Value} {h h':ak} {v:Value}
theorem kind_pure (hk:aW P o = .pure) (e:opA P C o ρ h=some (v,h')):h'=h ∧ ∀ h2,opA P C o ρ h2=some (v,h2):=by
 have pure_of : ∀ {r:Option Value},r.map (fun v=>(v,h))=some (v,h')→h'=h ∧ ∀ h2:ak,r.map (fun v=>(v,h2))=some (v,h2):=by
  intro r e
  simp only [Option.map_eq_some_iff,Prod.mk.injEq] at e
  obtain ⟨x,rfl,rfl,rfl⟩:=e
  exact ⟨rfl,fun h2=>rfl⟩
 unfold opA at e ⊢
 simp only at e ⊢
 split at e
 all_goals (rename_i heq)
 all_goals try rw [heq]
 all_goals first
  |exact pure_of e
  | (cases e;exact ⟨rfl,fun _=>rfl⟩)
  | (split at e
     ·cases e;rename_i hc;exact ⟨rfl,fun _=>by simp only [hc]⟩
     ·cases e)
  | (simp [aW,heq] at hk;done)
  | (simp only [aW,heq] at hk;split at hk<;>cases hk;done)
  | (cases e;done)
theorem kind_read (hk:aW P o = .read) (e:opA P C o ρ h=some (v,h')):h'=h:=by
 unfold opA at e
 simp only at e
 split at e
 all_goals (rename_i heq)
 all_goals try (simp [aW,heq] at hk;done)
 ·unfold ld at e
  split at e
  ·unfold bP at e
   repeat' split at e
   all_goals first
    | (cases e;done)
    | (simp only [Option.some.injEq,Prod.mk.injEq] at e;exact e.2.symm)
  ·unfold aK at e
   repeat' split at e
   all_goals first
    | (cases e;done)
    | (simp only [Option.some.injEq,Prod.mk.injEq] at e;exact e.2.symm)
  ·cases e
 ·simp only [aW,heq] at hk
  unfold convA at e
  split at e
  ·cases e;rfl
  ·cases e;rfl
  ·rename_i hd _;rw [hd] at hk;cases hk
  ·rename_i hd _;rw [hd] at hk;cases hk
  ·repeat' split at e
   all_goals first
    | (cases e;done)
    | (cases e;rfl)
  ·cases e
 ·rename_i c
  simp only [aW,heq] at hk
  split at hk
  all_goals first
   | (cases hk;done)
   |skip
  all_goals
   rename_i hc
   rw [hc] at e
   simp only [builtinA] at e
   split at e
   all_goals first
    |contradiction
    | (cases e;done)
    | (simp only [Option.map_eq_some_iff,Prod.mk.injEq] at e;obtain ⟨_,_,_,rfl⟩:=e;rfl)
theorem kind_alloc (hk:aW P o = .alloc) (e:opA P C o ρ h=some (v,h')) :
  ∃ (k:dA) (mk:Nat→Value),h'=h.alloc k∧v=mk h.next ∧ ∀ h2:ak,opA P C o ρ h2=some (mk h2.next,h2.alloc k):=by
 unfold opA at e ⊢
 simp only at e ⊢
 split at e
 all_goals (rename_i heq)
 all_goals try (simp [aW,heq] at hk;done)
 ·simp only [zero] at e ⊢
  split at e
  ·rename_i z hz
   split at e
   ·rename_i hf
    simp only [newRow,Option.some.injEq,Prod.mk.injEq] at e
    obtain ⟨rfl,rfl⟩:=e
    exact ⟨_,fun n=>ptr n 0,rfl,rfl,fun h2=>by simp only [hf,if_true,newRow]⟩
   ·cases e
  ·cases e
 ·simp only [box] at e ⊢
  split at e
  ·rename_i hf
   simp only [newRow,Option.some.injEq,Prod.mk.injEq] at e
   obtain ⟨rfl,rfl⟩:=e
   exact ⟨_,fun n=>ptr n 0,rfl,rfl,fun h2=>by simp only [hf,if_true,newRow]⟩
  ·cases e
 ·simp only [ey] at e ⊢
  split at e
  ·split at e
   ·split at e
    ·rename_i hc
     split at e
     ·rename_i cs hcs
      simp only [Option.some.injEq,Prod.mk.injEq] at e
      obtain ⟨rfl,rfl⟩:=e
      exact ⟨_,fun n => .slice (some ⟨n,0,none⟩) _ _,rfl,rfl,fun h2=>by rw [if_pos hc]⟩
     ·cases e
    ·cases e
   ·cases e
  ·cases e
 ·simp only [aW,heq] at hk
  split at hk<;>cases hk
 ·simp only [makeA] at e ⊢
  split at e
  ·split at e
   ·split at e
    ·rename_i hc
     simp only [Option.some.injEq,Prod.mk.injEq] at e
     obtain ⟨rfl,rfl⟩:=e
     exact ⟨_,fun n => .slice (some ⟨n,0,none⟩) _ _,rfl,rfl,fun h2=>by rw [if_pos hc]⟩
    ·cases e
   ·cases e
  ·cases e
 ·simp only [aW,heq] at hk
  split at hk<;>cases hk
end kinds
end Go.Abs

namespace Go.Abs
section late
variable {P:Program} {ops:Array Oper}
theorem mem_lateGo (P:Program) (m:Array Nat) (y:Nat×Oper) : ∀ (l pend:List (Nat×Oper)),y∈lateGo P m l pend↔y∈l∨y∈pend
 | [],pend=>by simp [lateGo]
 |x::l,pend=>by
  unfold lateGo
  split
  ·rw [mem_lateGo P m y l];simp only [List.mem_append,List.mem_cons,List.not_mem_nil,or_false]
   grind
  ·rw [List.mem_append,List.mem_cons,mem_lateGo P m y l,List.mem_filter,List.mem_filter,List.mem_cons]
   cases hb:eJ m x.1 y.1<;>grind
theorem mem_zip {i:Nat} {o:Oper}:(i,o)∈(ops.toList.zipIdx.map fun x=>(x.2,x.1))↔ops[i]? = some o:=by
 simp only [List.mem_map,Prod.mk.injEq]
 constructor
 ·rintro ⟨⟨u,k⟩,hm,rfl,rfl⟩
  have:=List.mem_zipIdx_iff_getElem?.1 hm
  simpa using this
 ·intro h
  exact ⟨(o,i),List.mem_zipIdx_iff_getElem?.2 (by simpa using h),rfl,rfl⟩
theorem mem_late {i:Nat} {o:Oper}:(i,o)∈late P ops↔ops[i]? = some o:=by
 have key:(i,o)∈(ops.toList.zipIdx.map fun x=>(x.2,x.1))↔ops[i]? = some o:=mem_zip
 unfold late
 split
 ·unfold late0
  rw [mem_lateGo]
  simp only [List.not_mem_nil,or_false]
  exact key
 ·unfold late1
  rw [List.mem_append,mem_lateGo,List.mem_filter,List.mem_filter,←key]
  simp only [List.not_mem_nil,or_false]
  cases early P ops (fi ops) (i,o)<;>simp
theorem pairs_spec {r:(Nat×Oper)→(Nat×Oper)→Bool} : ∀ {l:List (Nat×Oper)},pairsOk r l=true → ∀ {p q:Nat} {x y:Nat×Oper},p<q→l[p]? = some x→l[q]? = some y→r x y=true
 | [],_,p,q,x,y,_,hx,_=>by simp at hx
 |a::l,h,p,q,x,y,hpq,hx,hy=>by
  simp only [pairsOk,Bool.and_eq_true] at h
  cases q with
  |zero=>omega
  |succ q=>
   simp only [List.getElem?_cons_succ] at hy
   cases p with
   |zero=>
    simp only [List.getElem?_cons_zero,Option.some.injEq] at hx
    subst hx
    exact List.all_eq_true.1 h.1 y (List.mem_of_getElem? hy)
   |succ p=>exact pairs_spec (p:=p) (q:=q) h.2 (by omega) (by simpa using hx) hy
end late
structure Tra (P:Program) (C:av) (ops:Array Oper) (l:List (Nat×Oper)) (E:Nat→Env) (H:Nat→ak) (V:Nat→Value) (R:Nat→Bool):Prop where
 step : ∀ p x,l[p]? = some x→R p=wantA ops x.2 (E p)∧E (p+1)=eG (E p) x.2.dst (V p) ∧
  (R p=true→opA P C x.2 (ev (E p)) (H p)=some (V p,H (p+1)))∧(R p=false→V p=undef∧H (p+1)=H p)
theorem trace_tra {P:Program} {C:av} {ops:Array Oper} : ∀ {l:List (Nat×Oper)} {e e':Env} {h h':ak} {tr:List Tr1},cO P C ops l e h=some (tr,e',h') →
  ∃ E H V R,E 0=e∧H 0=h∧E l.length=e'∧H l.length=h'∧Tra P C ops l E H V R∧tr=(List.range l.length).map fun p=>⟨E p,H p,V p,R p⟩
 | [],e,e',h,h',tr,he=>by
   simp only [cO,Option.some.injEq,Prod.mk.injEq] at he
   obtain ⟨rfl,rfl,rfl⟩:=he
   exact ⟨fun _=>e,fun _=>h,fun _=>undef,fun _=>false,rfl,rfl,rfl,rfl,⟨by simp⟩,rfl⟩
 | (i,o)::l,e,e',h,h',tr,he=>by
   have build : ∀ (v:Value) (h1:ak) (r:Bool) (tl:List Tr1),r=wantA ops o e→(r=true→opA P C o (ev e) h=some (v,h1))→(r=false→v=undef∧h1=h) →
     cO P C ops l (eG e o.dst v) h1=some (tl,e',h')→tr=⟨e,h,v,r⟩::tl →
     ∃ E H V R,E 0=e∧H 0=h∧E ((i,o)::l).length=e'∧H ((i,o)::l).length=h'∧Tra P C ops ((i,o)::l) E H V R∧tr=(List.range ((i,o)::l).length).map fun p=>⟨E p,H p,V p,R p⟩:=by
    intro v h1 r tl hr hrt hrf htl htr
    obtain ⟨E,H,V,R,e0,h0,e1,h1',T,ht⟩:=trace_tra htl
    refine ⟨fun p=>match p with|0=>e|p+1=>E p,fun p=>match p with|0=>h|p+1=>H p,fun p=>match p with|0=>v|p+1=>V p,fun p=>match p with|0=>r|p+1=>R p,
     rfl,rfl,e1,h1',⟨?_⟩,?_⟩
    ·intro p x hx
     cases p with
     |zero=>
      simp only [List.getElem?_cons_zero,Option.some.injEq] at hx
      subst hx
      refine ⟨hr,e0,fun h => ?_,fun h => ?_⟩
      ·simp only;rw [h0];exact hrt h
      ·simp only;rw [h0];exact hrf h
     |succ p=>exact T.step p x (by simpa using hx)
    ·rw [htr,ht,List.length_cons,List.range_succ_eq_map]
     simp [List.map_map,Function.comp_def]
   simp only [cO] at he
   split at he
   ·rename_i hw
    split at he
    ·rename_i v h1 hop
     split at he
     ·rename_i tl r htl
      simp only [Option.some.injEq,Prod.mk.injEq] at he
      obtain ⟨htr,rfl⟩:=he
      exact build v h1 true tl hw.symm (fun _=>hop) (by simp) htl htr.symm
     ·cases he
    ·cases he
   ·rename_i hw
    split at he
    ·rename_i tl r htl
     simp only [Option.some.injEq,Prod.mk.injEq] at he
     obtain ⟨htr,rfl⟩:=he
     exact build undef h false tl (by simpa using hw) (by simp) (fun _=>⟨rfl,rfl⟩) htl htr.symm
    ·cases he
def eP (l:List (Nat×Oper)) (V:Nat→Value) (x:Nat→Bool) (e:Env):Nat→Env
 | 0=>e
 |p+1=>if x p then eG (eP l V x e p) ((l[p]?).bind (·.2.dst)) (V p) else eP l V x e p
section envs
variable {l:List (Nat×Oper)} {V:Nat→Value} {e:Env}
theorem length_putD (e:Env) (d:Option Tmp) (v:Value):(eG e d v).length=e.length:=by cases d<;>simp [eG]
theorem fp (x:Nat→Bool) : ∀ n,(eP l V x e n).length=e.length
 | 0=>rfl
 |n+1=>by
  unfold eP
  split
  ·rw [length_putD,fp x n]
  ·exact fp x n
theorem envS_congr {x y:Nat→Bool} {t:Tmp} : ∀ n,(∀ q,q<n→(l[q]?).bind (·.2.dst)=some t→x q=y q)→(eP l V x e n)[t]? = (eP l V y e n)[t]?
 | 0,_=>rfl
 |n+1,h=>by
  have ih:=envS_congr n (fun q hq=>h q (by omega))
  have hl:(eP l V x e n).length=(eP l V y e n).length:=by rw [fp,fp]
  unfold eP
  by_cases hd:(l[n]?).bind (·.2.dst)=some t
  ·have hxy:=h n (by omega) hd
   rw [hd,hxy]
   split
   ·show ((eP l V x e n).set t (V n))[t]? = ((eP l V y e n).set t (V n))[t]?
    rw [List.getElem?_set,List.getElem?_set,if_pos rfl,if_pos rfl,hl]
   ·exact ih
  ·have hput : ∀ z:Env,(eG z ((l[n]?).bind (·.2.dst)) (V n))[t]? = z[t]? := by
    intro z
    cases hz:(l[n]?).bind (·.2.dst) with
    |none=>rfl
    |some u=>
     have:u≠t:=by rintro rfl;exact hd hz
     simp only [eG]
     rw [List.getElem?_set_ne this]
   split<;>split<;>(try rw [hput])<;>(try rw [hput])<;>exact ih
theorem envS_first {x:Nat→Bool} {p:Nat} : ∀ n,p≤n→(∀ q,x q=decide (q<p))→eP l V x e n=eP l V (fun _=>true) e p
 | 0,hp,_=>by obtain rfl:p=0:=by omega
              rfl
 |n+1,hp,hx=>by
  by_cases e1:p=n+1
  ·subst e1
   have key : ∀ m,m≤n+1→eP l V x e m=eP l V (fun _=>true) e m:=by
    intro m
    induction m with
    |zero=>intro _;rfl
    |succ m ih=>
     intro hm
     unfold eP
     rw [ih (by omega),hx m]
     simp [show m<n+1 from by omega]
   exact key _ (Nat.le_refl _)
  ·have:x n=false:=by rw [hx n];simp;omega
   conv=>lhs;unfold eP
   rw [this]
   exact envS_first n (by omega) hx
theorem tra_env {P:Program} {C:av} {ops:Array Oper} {E:Nat→Env} {H:Nat→ak} {R:Nat→Bool} (T:Tra P C ops l E H V R) (h0:E 0=e) : ∀ p,p≤l.length→E p=eP l V (fun _=>true) e p
 | 0,_=>h0
 |p+1,hp=>by
  have hlt:p<l.length:=by omega
  obtain ⟨_,h2,_⟩:=T.step p l[p] (List.getElem?_eq_getElem hlt)
  rw [h2,tra_env T h0 p (by omega)]
  simp [eP,List.getElem?_eq_getElem hlt]
end envs
end Go.Abs

namespace Go.Abs
mutual
theorem veq_eq : ∀ {a b:Value},fa a b=true→a=b
 | .bool a,b,h=>by cases b<;>simp [fa] at h;subst h;rfl
 | .int k a,b,h=>by cases b<;>simp [fa] at h;obtain ⟨rfl,rfl⟩:=h;rfl
 | .float k a,b,h=>by cases b<;>simp [fa] at h;obtain ⟨rfl,rfl⟩:=h;rfl
 | .complex k a c,b,h=>by cases b<;>simp [fa] at h;obtain ⟨⟨rfl,rfl⟩,rfl⟩:=h;rfl
 | .string a,b,h=>by
   cases b<;>simp [fa] at h
   rename_i c
   obtain ⟨x⟩:=a
   obtain ⟨y⟩:=c
   simp only at h
   rw [h]
 | .pointer a,b,h=>by cases b<;>simp [fa] at h;subst h;rfl
 | .slice a l c,b,h=>by cases b<;>simp [fa] at h;obtain ⟨⟨rfl,rfl⟩,rfl⟩:=h;rfl
 | .map a,b,h=>by cases b<;>simp [fa] at h;subst h;rfl
 | .chan a,b,h=>by cases b<;>simp [fa] at h;subst h;rfl
 | .nilFunc,b,h=>by cases b<;>simp [fa] at h;rfl
 | .nilIface,b,h=>by cases b<;>simp [fa] at h;rfl
 | .agg ⟨x⟩,b,h=>by
   cases b<;>simp [fa] at h
   rename_i c
   obtain ⟨y⟩:=c
   simp only [fa] at h
   rw [veqL_eq h]
 | .tuple ⟨x⟩,b,h=>by
   cases b<;>simp [fa] at h
   rename_i c
   obtain ⟨y⟩:=c
   simp only [fa] at h
   rw [veqL_eq h]
 | .func f ⟨x⟩ ⟨y⟩,b,h=>by
   cases b<;>simp [fa] at h
   rename_i g c d
   obtain ⟨z⟩:=c
   obtain ⟨u⟩:=d
   simp only [fa,Bool.and_eq_true,beq_iff_eq] at h
   obtain ⟨⟨h1,h2⟩,h3⟩:=h
   rw [h1,veqL_eq h2,veqL_eq h3]
 | .iface t x,b,h=>by
   cases b<;>simp [fa] at h
   rename_i u y
   obtain ⟨rfl,h2⟩:=h
   rw [veq_eq h2]
theorem veqL_eq : ∀ {a b:List Value},veqL a b=true→a=b
 | [],b,h=>by cases b<;>simp [veqL] at h;rfl
 |x::a,b,h=>by
  cases b<;>simp [veqL] at h
  obtain ⟨h1,h2⟩:=h
  rw [veq_eq h1,veqL_eq h2]
end
theorem kind_cases {P:Program} {C:av} (hC:bH P C) {o:Oper} {ρ:Operand→Value} {h h':ak} {v:Value} (e:opA P C o ρ h=some (v,h')) :
  aW P o = .eff∨h'=h∨(aW P o = .alloc ∧ ∃ k,h'=h.alloc k):=by
 cases hk:aW P o with
 |pure=>exact .inr (.inl (kind_pure hk e).1)
 |read=>exact .inr (.inl (kind_read hk e))
 |alloc=>obtain ⟨k,mk,h1,_⟩:=kind_alloc hk e;exact .inr (.inr ⟨rfl,k,h1⟩)
 |eff=>exact .inl rfl
section tra
variable {P:Program} {C:av} {ops:Array Oper} {l:List (Nat×Oper)} {E:Nat→Env} {H:Nat→ak} {V:Nat→Value} {R:Nat→Bool}
theorem Tra.grow1 (hC:bH P C) (T:Tra P C ops l E H V R) {p:Nat} {x:Nat×Oper} (hx:l[p]? = some x):cz (H p) (H (p+1)):=by
 obtain ⟨_,_,h3,h4⟩:=T.step p x hx
 cases hr:R p with
 |true=>exact opA_grow hC (h3 hr)
 |false=>rw [(h4 hr).2];exact cz.refl _
theorem Tra.grow (hC:bH P C) (T:Tra P C ops l E H V R) {p q:Nat} (hpq:p≤q) (hq:q≤l.length):cz (H p) (H q):=by
 induction q with
 |zero=>obtain rfl:p=0:=by omega
        exact cz.refl _
 |succ q ih=>
  by_cases e:p=q+1
  ·subst e;exact cz.refl _
  ·exact (ih (by omega) (by omega)).trans (T.grow1 hC (List.getElem?_eq_getElem (show q<l.length by omega)))
theorem Tra.bd (hC:bH P C) (T:Tra P C ops l E H V R) (hg:P.globals.size≤(H 0).n0) (hok : ∀ (p:Nat) (x:Nat×Oper),l[p]? = some x→operOk P x.2=true) (he:dy (H 0).next (E 0)=true) (hh:bc (H 0)) : ∀ p,p≤l.length→dy (H p).next (E p)=true∧bc (H p)
 | 0,_=>⟨he,hh⟩
 |p+1,hp=>by
  obtain ⟨h1,h2⟩:=T.bd hC hg hok he hh p (by omega)
  have hx:l[p]? = some l[p]:=List.getElem?_eq_getElem (by omega)
  obtain ⟨_,h3,h4,h5⟩:=T.step p _ hx
  have hgr:=T.grow1 hC hx
  have hn0:=(T.grow hC (Nat.zero_le p) (by omega)).2.1
  cases hr:R p with
  |true=>
   obtain ⟨h6,h7⟩:=opA_bd hC h2 (fun x hm=>bd_ev (by rw [hn0];exact hg) h1 (List.all_eq_true.1 (hok p _ hx) x hm)) (h4 hr)
   rw [h3]
   exact ⟨bd_putD (dm hgr.1 h1) h6,h7⟩
  |false=>
   obtain ⟨h6,h7⟩:=h5 hr
   rw [h3,h6,h7]
   exact ⟨bd_putD h1 rfl,h2⟩
theorem Tra.noeff (hC:bH P C) (T:Tra P C ops l E H V R) {p q:Nat} (hpq:p≤q) (hq:q≤l.length) (hne : ∀ r x,p≤r→r<q→l[r]? = some x→aW P x.2 ≠ .eff) :
  (∀ b k,(H p).get b=some k→(H q).get b=some k) ∧
  ∀ b k,(H q).get b=some k→(H p).get b=some k ∨ ∃ r x,p≤r∧r<q∧l[r]? = some x∧aW P x.2 = .alloc∧R r=true∧b=(H r).next∧H (r+1)=(H r).alloc k:=by
 induction q with
 |zero=>
  obtain rfl:p=0:=by omega
  exact ⟨fun _ _ h=>h,fun _ _ h => .inl h⟩
 |succ q ih=>
  by_cases e:p=q+1
  ·subst e;exact ⟨fun _ _ h=>h,fun _ _ h => .inl h⟩
  ·obtain ⟨h1,h2⟩:=ih (by omega) (by omega) (fun r x hr hrq hx=>hne r x hr (by omega) hx)
   have hlt:q<l.length:=by omega
   have hx:l[q]? = some l[q]:=List.getElem?_eq_getElem hlt
   obtain ⟨_,_,h3,h4⟩:=T.step q _ hx
   have key:H (q+1)=H q∨(aW P l[q].2 = .alloc∧R q=true ∧ ∃ k,H (q+1)=(H q).alloc k):=by
    cases hr:R q with
    |false=>exact .inl (h4 hr).2
    |true=>
     rcases kind_cases hC (h3 hr) with h5|h5|⟨h5,k,h6⟩
     ·exact absurd h5 (hne q _ (by omega) (by omega) hx)
     ·exact .inl h5
     ·exact .inr ⟨h5,rfl,k,h6⟩
   rcases key with h5|⟨h5,h6,k,h7⟩
   ·rw [h5]
    refine ⟨h1,fun b k hb=>(h2 b k hb).imp id ?_⟩
    rintro ⟨r,x,g1,g2,g3⟩
    exact ⟨r,x,g1,by omega,g3⟩
   ·refine ⟨fun b k' hb=>by rw [h7];exact ak.fA (h1 b k' hb) k,fun b k' hb => ?_⟩
    rw [h7,ak.aM] at hb
    by_cases eb:b=(H q).next
    ·rw [if_pos eb] at hb
     cases hb
     exact .inr ⟨q,_,by omega,by omega,hx,h5,h6,eb,h7⟩
    ·rw [if_neg eb] at hb
     refine (h2 b k' hb).imp id ?_
     rintro ⟨r,x,g1,g2,g3⟩
     exact ⟨r,x,g1,by omega,g3⟩
end tra
def xsOf (l:List (Nat×Oper)) (listed:Array Bool) (p:Nat):Bool:=
 match l[p]? with
 |some x=>listed.getD x.1 false
 |none=>false
def plusAll (H:Nat→ak) (R:Nat→Bool) (h:ak) (mk:List Nat):ak:=mk.foldl (fun h r=>ak.plus (R r) h (H r) (H (r+1))) h
theorem ak.pad_spec (h:ak) : ∀ c,(ak.pad c h).n0=h.n0∧(ak.pad c h).bm=h.bm∧(ak.pad c h).next=h.next+c ∧ ∀ b k,h.n0≤b→(ak.pad c h).get b=some k→h.get b=some k
 | 0=>⟨rfl,rfl,rfl,fun _ _ _ e=>e⟩
 |c+1=>by
  obtain ⟨h1,h2,h3,h4⟩:=ak.pad_spec h c
  refine ⟨h1,h2,by simp [ak.pad,h3];omega,fun b k hb e => ?_⟩
  unfold ak.pad ak.kill at e
  have hn:=h.bg
  rw [ak.get_put _ (by simp [h1,h3];omega) (by simp),ak.aM] at e
  split at e
  ·cases e
  ·exact h4 b k hb e
theorem fk {P:Program} {l:List (Nat×Oper)} {p q r:Nat} (h:r∈fg P l (p,q)):q≤r∧r<p ∧ ∃ y,l[r]? = some y∧aW P y.2 = .alloc:=by
 unfold fg at h
 split at h
 ·rw [List.mem_filter,List.mem_range,Bool.and_eq_true,decide_eq_true_eq] at h
  obtain ⟨h1,h2,h3⟩:=h
  refine ⟨h2,h1,?_⟩
  split at h3
  ·rename_i y z hy hz
   rw [Bool.and_eq_true] at h3
   exact ⟨y,hy,by simpa using h3.1⟩
  ·cases h3
 ·simp at h
theorem madeIn_nil {P:Program} {l:List (Nat×Oper)} {p q:Nat} (h : ¬q<p):fg P l (p,q) = []:=by unfold fg;rw [if_neg h]
theorem madeIn_sorted {P:Program} {l:List (Nat×Oper)} {x:Nat×Nat}:(fg P l x).Pairwise (· < ·):=by
 unfold fg
 split
 ·exact List.Pairwise.filter _ List.pairwise_lt_range
 ·exact List.Pairwise.nil
theorem plusAll_sub {H:Nat→ak} {R:Nat→Bool} {G:ak} : ∀ (mk:List Nat) (h:ak) (N:Nat),mk.Pairwise (· < ·)→(∀ r∈mk,h.next≤(H r).next)→(∀ r∈mk,∀ r'∈mk,r<r'→(H (r+1)).next≤(H r').next)→(∀ r∈mk,(H r).next≤(H (r+1)).next∧(H (r+1)).next≤N)→h.next≤N →
  (∀ r∈mk,R r=true → ∃ k,H (r+1)=(H r).alloc k∧G.get (H r).next=some k)→h.n0=G.n0→h.bm=G.bm→(∀ b k,h.n0≤b→h.get b=some k→G.get b=some k) →
  Sub (plusAll H R h mk) G∧h.next≤(plusAll H R h mk).next∧(plusAll H R h mk).next≤N
 | [],h,N,_,_,_,_,hN,_,e1,e2,e3=>⟨⟨e1,e2,e3⟩,Nat.le_refl _,hN⟩
 |r::mk,h,N,hs,h1,h2,h3,hN,h4,e1,e2,e3=>by
  have hs':=List.pairwise_cons.1 hs
  have hr:=h1 r List.mem_cons_self
  have h3r:=h3 r List.mem_cons_self
  have step:(ak.plus (R r) h (H r) (H (r+1))).n0=G.n0∧(ak.plus (R r) h (H r) (H (r+1))).bm=G.bm∧(∀ b k,(ak.plus (R r) h (H r) (H (r+1))).n0≤b→(ak.plus (R r) h (H r) (H (r+1))).get b=some k→G.get b=some k)∧h.next≤(ak.plus (R r) h (H r) (H (r+1))).next∧(ak.plus (R r) h (H r) (H (r+1))).next≤(H (r+1)).next:=by
   unfold ak.plus
   cases hR:R r with
   |false=>exact ⟨e1,e2,e3,Nat.le_refl _,Nat.le_trans hr h3r.1⟩
   |true=>
    obtain ⟨k,k1,k2⟩:=h4 r List.mem_cons_self hR
    have hk:(H (r+1)).get (H r).next=some k:=by rw [k1,ak.aM,if_pos rfl]
    have hnx:(H (r+1)).next=(H r).next+1:=by rw [k1];simp
    rw [if_pos rfl,hk]
    obtain ⟨p1,p2,p3,p4⟩:=ak.pad_spec h ((H r).next-h.next)
    refine ⟨p1.trans e1,p2.trans e2,fun b k' hb e => ?_,by simp [p3];omega,by simp [p3,hnx];omega⟩
    simp only [ak.n0_alloc] at hb
    rw [ak.aM,p3] at e
    split at e
    ·rename_i hbe
     cases e
     rw [hbe,show h.next+((H r).next-h.next)=(H r).next by omega]
     exact k2
    ·exact e3 b k' (p1▸hb) (p4 b k' (p1▸hb) e)
  obtain ⟨s1,s2,s3,s4,s5⟩:=step
  have ih:=plusAll_sub (H:=H) (R:=R) (G:=G) mk (ak.plus (R r) h (H r) (H (r+1))) N hs'.2
   (fun r' hr'=>Nat.le_trans s5 (h2 r List.mem_cons_self r' (List.mem_cons_of_mem _ hr') (hs'.1 r' hr')))
   (fun a ha b hb=>h2 a (List.mem_cons_of_mem _ ha) b (List.mem_cons_of_mem _ hb)) (fun a ha=>h3 a (List.mem_cons_of_mem _ ha)) (Nat.le_trans s5 h3r.2) (fun a ha=>h4 a (List.mem_cons_of_mem _ ha)) s1 s2 s3
  exact ⟨ih.1,Nat.le_trans s4 ih.2.1,ih.2.2⟩
structure Reg (P:Program) (C:av) (ops:Array Oper) (l:List (Nat×Oper)) (E:Nat→Env) (H:Nat→ak) (V:Nat→Value) (R:Nat→Bool):Prop where
 hC:bH P C
 tra:Tra P C ops l E H V R
 len:l.length=ops.size
 pos : ∀ (i:Nat) (o:Oper),ops[i]? = some o → ∃ p:Nat,l[p]? = some (i,o)
 at_ : ∀ (p i:Nat) (o:Oper),l[p]? = some (i,o)→ops[i]? = some o
 fwd : ∀ (i:Nat) (o:Oper),ops[i]? = some o → ∀ e∈o.after.toList,Region.binds .any e=true→e.on<i
 guard : ∀ (p i:Nat) (o:Oper) (j:Nat) (b:Bool),l[p]? = some (i,o)→o.guard=some (j,b)→eJ (fi ops) i j=true
 ord : ∀ (p q:Nat) (x y:Nat×Oper),p<q→l[p]? = some x→l[q]? = some y→x.1≠y.1∧eJ (fi ops) x.1 y.1=false∧(eJ (fi ops) y.1 x.1=true∨clash P ops x y=false)
 dyn : ∀ (p q:Nat) (x y:Nat×Oper),l[p]? = some x→l[q]? = some y→aW P x.2 = .read→R p=true→aW P y.2 = .eff→eJ (fi ops) x.1 y.1=false→eJ (fi ops) y.1 x.1=false →
  ∃ h',opA P C x.2 (ev (E p)) (plusAll H R (H (if q<p then q else q+1)) (fg P l (p,q)))=some (V p,h')
 ok : ∀ o∈ops.toList,operOk P o=true
 bdE : ∀ p,p≤l.length→dy (H p).next (E p)=true
 bdH : ∀ p,p≤l.length→bc (H p)
structure Inv (P:Program) (ops:Array Oper) (l:List (Nat×Oper)) (E:Nat→Env) (H:Nat→ak) (V:Nat→Value) (R:Nat→Bool) (μ0:Mu) (w0:World) (listed:Array Bool) (m:Nat) (G:ak) (μ:Mu) (a:Act) (w:World):Prop where
 size:listed.size=ops.size
 closed : ∀ (i:Nat) (o:Oper),listed.getD i false=true→ops[i]? = some o → ∀ e∈o.after.toList,Region.binds .any e=true→listed.getD e.on false=true
 le:m≤l.length
 effs : ∀ (p:Nat) (x:Nat×Oper),l[p]? = some x→aW P x.2 = .eff→(listed.getD x.1 false=true↔p<m)
 allocs : ∀ (p:Nat) (x:Nat×Oper),p<m→l[p]? = some x→aW P x.2 = .alloc→listed.getD x.1 false=true
 gn0:G.n0=(H 0).n0
 gold:G.bm=(H 0).bm
 gnext:G.next=(H l.length).next
 here : ∀ b k,(H 0).n0≤b→(H m).get b=some k→G.get b=some k
 later : ∀ (p:Nat) (x:Nat×Oper) (k:dA),m≤p→l[p]? = some x→aW P x.2 = .alloc→listed.getD x.1 false=true→R p=true→H (p+1)=(H p).alloc k→G.get (H p).next=some k
 free : ∀ b,(H m).next≤b→b<(H l.length).next→(∀ (p:Nat) (x:Nat×Oper),m≤p→l[p]? = some x→aW P x.2 = .alloc→listed.getD x.1 false=true→R p=true→b≠(H p).next)→μ b=none
 sim:de μ G w
 stp:Step μ0 (H 0) w0 μ G w
 env:ERel μ (eP l V (xsOf l listed) (E 0) l.length) a
section inv
variable {P:Program} {C:av} {ops:Array Oper} {l:List (Nat×Oper)} {E:Nat→Env} {H:Nat→ak} {V:Nat→Value} {R:Nat→Bool} {μ0:Mu} {w0:World}
 {listed:Array Bool} {m:Nat} {G:ak} {μ:Mu} {a:Act} {w:World}
theorem Reg.n0 (r:Reg P C ops l E H V R) {p:Nat} (hp:p≤l.length):(H p).n0=(H 0).n0∧(H p).bm=(H 0).bm:=(r.tra.grow r.hC (Nat.zero_le p) hp).2
theorem Reg.eM (r:Reg P C ops l E H V R) {p q:Nat} (hpq:p≤q) (hq:q≤l.length):(H p).next≤(H q).next:=(r.tra.grow r.hC hpq hq).1
theorem Reg.lt (r:Reg P C ops l E H V R) {p:Nat} {x:Nat×Oper} (hx:l[p]? = some x):p<l.length:=(List.getElem?_eq_some_iff.1 hx).1
theorem Inv.before (r:Reg P C ops l E H V R) (I:Inv P ops l E H V R μ0 w0 listed m G μ a w) {i j:Nat} (hi:listed.getD i false=true) (hb:eJ (fi ops) i j=true):listed.getD j false=true:=by
 have hlt:i<ops.size:=by
  rcases Nat.lt_or_ge i ops.size with h|h
  ·exact h
  ·rw [←I.size] at h
   simp [Array.getElem?_eq_none h] at hi
 have ho:ops[i]? = some ops[i]:=Array.getElem?_eq_getElem hlt
 refine before_closed (X:=fun k=>listed.getD k false=true) I.closed i _ ho (I.closed i _ hi ho) ?_ j hb
 intro k hk
 have:k<ops.size:=by
  rcases Nat.lt_or_ge k ops.size with h|h
  ·exact h
  ·rw [←I.size] at h
   simp [Array.getElem?_eq_none h] at hk
 simp [this]
theorem Inv.ready (I:Inv P ops l E H V R μ0 w0 listed m G μ a w) {i:Nat} {o:Oper} (ho:ops[i]? = some o) (hr : ∀ e∈o.after.toList,Region.binds .any e=true→listed.getD e.on false=true) {j:Nat}
  (hb:eJ (fi ops) i j=true):listed.getD j false=true:=by
 refine before_closed (X:=fun k=>listed.getD k false=true) I.closed i o ho hr ?_ j hb
 intro k hk
 have:k<ops.size:=by
  rcases Nat.lt_or_ge k ops.size with h|h
  ·exact h
  ·rw [←I.size] at h
   simp [Array.getElem?_eq_none h] at hk
 simp [this]
theorem Inv.advance (r:Reg P C ops l E H V R) (I:Inv P ops l E H V R μ0 w0 listed m G μ a w) {p:Nat} (hmp:m≤p) (hp:p≤l.length) (hne : ∀ (q:Nat) (x:Nat×Oper),m≤q→q<p→l[q]? = some x→aW P x.2 ≠ .eff)
  (hal : ∀ (q:Nat) (x:Nat×Oper),m≤q→q<p→l[q]? = some x→aW P x.2 = .alloc→listed.getD x.1 false=true) (hend : ∀ (q:Nat) (x:Nat×Oper),p≤q→l[q]? = some x→aW P x.2 = .eff→listed.getD x.1 false=false) :
  Inv P ops l E H V R μ0 w0 listed p G μ a w:=by
 obtain ⟨n1,n2⟩:=r.tra.noeff r.hC hmp hp hne
 refine ⟨I.size,I.closed,hp,?_,?_,I.gn0,I.gold,I.gnext,?_,?_,?_,I.sim,I.stp,I.env⟩
 ·intro q x hx hk
  constructor
  ·intro hl
   rcases Nat.lt_or_ge q p with h|h
   ·exact h
   ·rw [hend q x h hx hk] at hl;cases hl
  ·intro hq
   rcases Nat.lt_or_ge q m with h|h
   ·exact (I.effs q x hx hk).2 h
   ·exact absurd hk (hne q x h hq hx)
 ·intro q x hq hx hk
  rcases Nat.lt_or_ge q m with h|h
  ·exact I.allocs q x h hx hk
  ·exact hal q x h hq hx hk
 ·intro b k hb hg
  rcases n2 b k hg with h|⟨q,x,h1,h2,h3,h4,h5,rfl,h7⟩
  ·exact I.here b k hb h
  ·exact I.later q x k h1 h3 h4 (hal q x h1 h2 h3 h4) h5 h7
 ·intro q x k hq hx hk hl hr hh
  exact I.later q x k (by omega) hx hk hl hr hh
 ·intro b hb hn hne'
  refine I.free b (Nat.le_trans (r.eM hmp hp) hb) hn ?_
  intro q x hq hx hk hl hr hbq
  rcases Nat.lt_or_ge q p with h|h
  ·
   have h2:=(r.tra.step q x hx).2.2.1 hr
   obtain ⟨k,mk,h3,_⟩:=kind_alloc hk h2
   have h4:=r.eM (show q+1≤p by omega) hp
   rw [h3] at h4
   simp at h4
   omega
  ·exact hne' q x h hx hk hl hr hbq
end inv
end Go.Abs

namespace Go.Abs
section inv
variable {P:Program} {C:av} {ops:Array Oper} {l:List (Nat×Oper)} {E:Nat→Env} {H:Nat→ak} {V:Nat→Value} {R:Nat→Bool} {μ0:Mu} {w0:World}
 {listed:Array Bool} {m:Nat} {G:ak} {μ:Mu} {a:Act} {w:World} {p i:Nat} {o:Oper}
def fE (o:Oper) (listed:Array Bool):Prop := ∀ e∈o.after.toList,Region.binds .any e=true→listed.getD e.on false=true
theorem clash_left {x y:Nat×Oper} {t:Tmp} (hd:y.2.dst=some t) (ht:t∈namesA ops x.2):clash P ops x y=true:=by
 unfold clash
 rw [hd]
 simp [List.contains_iff_mem,ht]
theorem clash_right {x y:Nat×Oper} {t:Tmp} (hd:x.2.dst=some t) (ht:t∈namesA ops y.2):clash P ops x y=true:=by
 unfold clash
 rw [hd]
 simp [List.contains_iff_mem,ht]
theorem Inv.writers (r:Reg P C ops l E H V R) (I:Inv P ops l E H V R μ0 w0 listed m G μ a w) (hx:l[p]? = some (i,o)) (hnl:listed.getD i false=false) (he:fE o listed) {t:Tmp} (ht:t∈namesA ops o) :
  ∀ q,q<l.length→(l[q]?).bind (·.2.dst)=some t→xsOf l listed q=decide (q<p):=by
 intro q hq hd
 have hy:l[q]? = some l[q]:=List.getElem?_eq_getElem hq
 have hxs:xsOf l listed q=listed.getD l[q].1 false:=by unfold xsOf;rw [hy]
 rw [hxs]
 rw [hy] at hd
 simp only [Option.bind_some] at hd
 have ho:=r.at_ p i o hx
 rcases Nat.lt_trichotomy q p with h|h|h
 ·obtain ⟨_,_,h3⟩:=r.ord q p _ _ h hy hx
  rcases h3 with h3|h3
  ·rw [I.ready ho he h3];simp [h]
  ·rw [clash_right (y:=(i,o)) hd ht] at h3;cases h3
 ·subst h
  rw [hx] at hy
  have:l[q]=(i,o):=by simpa using hy.symm
  rw [this]
  simp [hnl]
 ·obtain ⟨_,_,h3⟩:=r.ord p q _ _ h hx hy
  rcases h3 with h3|h3
  ·cases hl:listed.getD l[q].1 false with
   |false=>simp;omega
   |true=>rw [I.before r hl h3] at hnl;cases hnl
  ·rw [clash_left (x:=(i,o)) hd ht] at h3;cases h3
theorem Inv.names (r:Reg P C ops l E H V R) (I:Inv P ops l E H V R μ0 w0 listed m G μ a w) (hx:l[p]? = some (i,o)) (hnl:listed.getD i false=false) (he:fE o listed) {t:Tmp} (ht:t∈namesA ops o) :
  (eP l V (xsOf l listed) (E 0) l.length)[t]? = (E p)[t]? := by
 have hp:=Nat.le_of_lt (r.lt hx)
 rw [tra_env r.tra rfl p hp,←envS_first (x:=fun q=>decide (q<p)) l.length hp (fun _=>rfl)]
 exact envS_congr _ (I.writers r hx hnl he ht)
theorem Inv.listing (r:Reg P C ops l E H V R) (I:Inv P ops l E H V R μ0 w0 listed m G μ a w) (hx:l[p]? = some (i,o)) (hnl:listed.getD i false=false) (he:fE o listed) :
  eP l V (xsOf l (listed.setIfInBounds i true)) (E 0) l.length=eG (eP l V (xsOf l listed) (E 0) l.length) o.dst (V p):=by
 have ho:=r.at_ p i o hx
 have hi:i<ops.size:=(Array.getElem?_eq_some_iff.1 ho).1
 have hp:=r.lt hx
 have hself:xsOf l (listed.setIfInBounds i true) p=true:=by
  unfold xsOf
  rw [hx]
  have:i<listed.size:=by rw [I.size];exact hi
  simp [this]
 have hother : ∀ q,q≠p→xsOf l (listed.setIfInBounds i true) q=xsOf l listed q:=by
  intro q hq
  unfold xsOf
  cases hy:l[q]? with
  |none=>rfl
  |some y=>
   have hne:i≠y.1:=by
    rcases Nat.lt_or_gt_of_ne hq with h|h
    ·exact (r.ord q p _ _ h hy hx).1.symm
    ·exact (r.ord p q _ _ h hx hy).1
   exact getD_set_ne false hne
 apply List.ext_getElem?
 intro t
 by_cases hd:o.dst=some t
 ·have ht:t∈namesA ops o:=by unfold namesA;rw [hd];simp
  have h1:(eP l V (xsOf l (listed.setIfInBounds i true)) (E 0) l.length)[t]? = (E (p+1))[t]? := by
   rw [tra_env r.tra rfl (p+1) hp,←envS_first (x:=fun q=>decide (q<p+1)) l.length hp (fun _=>rfl)]
   refine envS_congr _ fun q hq hdq => ?_
   by_cases e:q=p
   ·subst e;rw [hself];simp
   ·rw [hother q e,I.writers r hx hnl he ht q hq hdq]
    simp only [decide_eq_decide]
    omega
  rw [h1,(r.tra.step p _ hx).2.1]
  simp only [hd,eG]
  rw [List.getElem?_set,List.getElem?_set,if_pos rfl,if_pos rfl,tra_env r.tra rfl p (Nat.le_of_lt hp),fp,fp]
 ·have h1:(eG (eP l V (xsOf l listed) (E 0) l.length) o.dst (V p))[t]? = (eP l V (xsOf l listed) (E 0) l.length)[t]? := by
   cases hz:o.dst with
   |none=>rfl
   |some u=>
    have:u≠t:=by rintro rfl;exact hd hz
    simp only [eG]
    rw [List.getElem?_set_ne this]
  rw [h1]
  refine envS_congr _ fun q hq hdq=>hother q ?_
  rintro rfl
  rw [hx] at hdq
  exact hd (by simpa using hdq)
theorem Inv.operands (r:Reg P C ops l E H V R) (I:Inv P ops l E H V R μ0 w0 listed m G μ a w) (hx:l[p]? = some (i,o)) (hnl:listed.getD i false=false) (he:fE o listed) (hg:P.globals.size≤(H 0).n0) :
  ∀ x∈o.op.operands.toList,aQ μ (ev (E p) x) (a.eval x):=by
 intro x hm
 have ho:=r.at_ p i o hx
 have hok:=List.all_eq_true.1 (r.ok o (by rw [Array.mem_toList_iff];exact Array.mem_of_getElem? ho)) x hm
 have hv:=ev_rel I.sim (by rw [I.gn0];exact hg) I.env hok
 have he':ev (E p) x=ev (eP l V (xsOf l listed) (E 0) l.length) x:=by
  cases x with
  |tmp t=>
   have ht:t∈namesA ops o:=by
    unfold namesA opTmps
    simp only [List.mem_append,List.mem_filterMap]
    exact .inl (.inr ⟨.tmp t,hm,rfl⟩)
   simp only [ev,List.getD_eq_getElem?_getD,I.names r hx hnl he ht]
  |_=>rfl
 rw [he'];exact hv
theorem Inv.wanted (r:Reg P C ops l E H V R) (I:Inv P ops l E H V R μ0 w0 listed m G μ a w) (hx:l[p]? = some (i,o)) (hnl:listed.getD i false=false) (he:fE o listed) :
  Region.wanted o (yielded ops a.tmps)=R p:=by
 rw [←want_rel I.env,(r.tra.step p _ hx).1]
 unfold wantA
 cases hgd:o.guard with
 |none=>rfl
 |some g=>
  obtain ⟨j,b⟩:=g
  simp only
  congr 1
  unfold fH
  cases hd:(ops[j]?).bind (·.dst) with
  |none=>rfl
  |some t=>
   have ht:t∈namesA ops o:=by
    unfold namesA guardTmp
    rw [hgd]
    simp [hd]
   simp only [Option.bind_some,I.names r hx hnl he ht]
theorem Inv.run (r:Reg P C ops l E H V R) (I:Inv P ops l E H V R μ0 w0 listed m G μ a w) (hx:l[p]? = some (i,o)) (hnl:listed.getD i false=false) (he:fE o listed) (hg:P.globals.size≤(H 0).n0)
  {hs h1:ak} (hsub:Sub hs G) (hbd:aW P o = .eff→(∀ x∈o.op.operands.toList,cU hs.next (ev (E p) x)=true)∧bc hs) (hop:opA P C o (ev (E p)) hs=some (V p,h1)) (hfree:ft μ hs h1) (hlo:(H 0).next≤hs.next) (hhi:h1.next≤G.next)
  {K:Act→World→Prop} {Q:Exit→Act→World→Prop}
  (hK : ∀ μ1 v' w1 G',de μ1 G' w1→Step μ0 (H 0) w0 μ1 G' w1→aQ μ1 (V p) v'→ERel μ1 (eP l V (xsOf l (listed.setIfInBounds i true)) (E 0) l.length) (a.put o.dst v')→G'.n0=G.n0→G'.bm=G.bm→G'.next=G.next →
   (∀ b k,G.n0≤b→h1.get b=some k→G'.get b=some k)→(∀ b k,G.n0≤b→G.get b=some k→hs.get b=none→(b<hs.next∨h1.next≤b)→h1.get b=none→G'.get b=some k) →
   (∀ b,b<hs.next∨h1.next≤b→μ1 b=μ b)→K (a.put o.dst v') w1):o.wp P a w K Q:=by
 refine opA_sound r.hC (I.sim.sub hsub) hfree (I.operands r hx hnl he hg) (by rw [hsub.1,I.gn0];exact hg) (fun c f h1 h2=>hbd (by unfold aW;rw [h1];simp only;rw [h2])) hop K Q ?_
 intro μ1 v' w1 hS hSt hv
 obtain ⟨g1,g2,g3,g4⟩:=heapOf_spec G.n0 G.bm (fun b=>match h1.get b with
  |some k=>some k
  |none=>if (hs.get b).isSome∨(hs.next≤b∧b<h1.next) then none else G.get b) (G.next-G.n0)
 have hnn:G.n0+(G.next-G.n0)=G.next:=by have:=G.bg;omega
 rw [hnn] at g3 g4
 generalize heapOf G.n0 G.bm (fun b=>match h1.get b with
  |some k=>some k
  |none=>if (hs.get b).isSome∨(hs.next≤b∧b<h1.next) then none else G.get b) (G.next-G.n0)=G' at g1 g2 g3 g4
 have fr:Framed G hs h1 G':=by
  refine ⟨g1,g2,fun b k hb hgb => ?_⟩
  rw [g4 b (g1▸hb)] at hgb
  split at hgb
  ·split at hgb
   ·rename_i k' hk';cases hgb;exact .inl hk'
   ·split at hgb
    ·cases hgb
    ·rename_i hc
     simp only [not_or,not_and,Nat.not_lt] at hc
     refine .inr ⟨hgb,?_,?_⟩
     ·cases hq:hs.get b with
      |none=>rfl
      |some _=>exact absurd (by rw [hq];rfl) hc.1
     ·rcases Nat.lt_or_ge b hs.next with h|h
      ·exact .inl h
      ·exact .inr (hc.2 h)
  ·cases hgb
 have hS':=I.sim.frame hsub hSt hS hfree fr
 have hSt':=I.stp.frame hsub hSt fr g3 hlo hhi
 refine hK μ1 v' w1 G' hS' hSt' hv ?_ g1 g2 g3 ?_ ?_ hSt.ext
 ·rw [I.listing r hx hnl he]
  exact (I.env.mono (hSt.mono hfree)).put o.dst hv
 ·intro b k hb hgb
  rw [g4 b hb,if_pos (Nat.lt_of_lt_of_le (h1.bT hgb) hhi),hgb]
 ·intro b k hb hgb hn hr h1n
  rw [g4 b hb,if_pos (G.bT hgb),h1n]
  rw [if_neg ?_]
  ·exact hgb
  ·rintro (h|h)
   ·rw [hn] at h;cases h
   ·omega
theorem ew {listed:Array Bool} {i j:Nat} (hi:i<listed.size):(listed.setIfInBounds i true).getD j false=true↔j=i∨listed.getD j false=true:=by
 by_cases e:i=j
 ·subst e;simp [hi]
 ·rw [getD_set_ne false e]
  constructor
  ·intro h;exact .inr h
  ·rintro (h|h)
   ·exact absurd h.symm e
   ·exact h
theorem Inv.closed' (r:Reg P C ops l E H V R) (I:Inv P ops l E H V R μ0 w0 listed m G μ a w) (hx:l[p]? = some (i,o)) (he:fE o listed) :
  ∀ (j:Nat) (u:Oper),(listed.setIfInBounds i true).getD j false=true→ops[j]? = some u → ∀ e∈u.after.toList,Region.binds .any e=true→(listed.setIfInBounds i true).getD e.on false=true:=by
 have ho:=r.at_ p i o hx
 have hi:i<listed.size:=by rw [I.size];exact (Array.getElem?_eq_some_iff.1 ho).1
 intro j u hj hu e hm hb
 rw [ew hi] at hj ⊢
 rcases hj with rfl|hj
 ·rw [ho] at hu;cases hu
  exact .inr (he e hm hb)
 ·exact .inr (I.closed j u hj hu e hm hb)
end inv
end Go.Abs

namespace Go.Abs
section inv
variable {P:Program} {C:av} {ops:Array Oper} {l:List (Nat×Oper)} {E:Nat→Env} {H:Nat→ak} {V:Nat→Value} {R:Nat→Bool} {μ0:Mu} {w0:World}
 {listed:Array Bool} {m:Nat} {G:ak} {μ:Mu} {a:Act} {w:World} {p i:Nat} {o:Oper}
theorem Reg.uniq (r:Reg P C ops l E H V R) (hx:l[p]? = some (i,o)) {q:Nat} {y:Nat×Oper} (hy:l[q]? = some y) (e:y.1=i):q=p:=by
 rcases Nat.lt_trichotomy q p with h|h|h
 ·exact absurd e (r.ord q p _ _ h hy hx).1
 ·exact h
 ·exact absurd e.symm (r.ord p q _ _ h hx hy).1
theorem Inv.inb (r:Reg P C ops l E H V R) (I:Inv P ops l E H V R μ0 w0 listed m G μ a w) (hx:l[p]? = some (i,o)):i<listed.size:=by
 rw [I.size];exact (Array.getElem?_eq_some_iff.1 (r.at_ p i o hx)).1
theorem Inv.same (r:Reg P C ops l E H V R) (I:Inv P ops l E H V R μ0 w0 listed m G μ a w) (hx:l[p]? = some (i,o)) (he:fE o listed) (hk:aW P o ≠ .eff)
  {G':ak} {μ':Mu} {a':Act} {w':World} (g0:G'.n0=G.n0) (g1:G'.bm=G.bm) (g2:G'.next=G.next)
  (here : ∀ b k,(H 0).n0≤b→(H m).get b=some k→G'.get b=some k)
  (later : ∀ (q:Nat) (x:Nat×Oper) (k:dA),m≤q→l[q]? = some x→aW P x.2 = .alloc→(listed.getD x.1 false=true∨q=p)→R q=true→H (q+1)=(H q).alloc k→G'.get (H q).next=some k)
  (free : ∀ b,(H m).next≤b→b<(H l.length).next→(∀ (q:Nat) (x:Nat×Oper),m≤q→l[q]? = some x→aW P x.2 = .alloc→(listed.getD x.1 false=true∨q=p)→R q=true→b≠(H q).next)→μ' b=none)
  (sim:de μ' G' w') (stp:Step μ0 (H 0) w0 μ' G' w') (env:ERel μ' (eP l V (xsOf l (listed.setIfInBounds i true)) (E 0) l.length) a') :
  Inv P ops l E H V R μ0 w0 (listed.setIfInBounds i true) m G' μ' a' w':=by
 have hi:=I.inb r hx
 refine ⟨by simpa using I.size,I.closed' r hx he,I.le,?_,?_,g0.trans I.gn0,g1.trans I.gold,g2.trans I.gnext,here,?_,?_,sim,stp,env⟩
 ·intro q x hq hkq
  rw [ew hi,←I.effs q x hq hkq]
  constructor
  ·rintro (h|h)
   ·obtain rfl:=r.uniq hx hq h
    rw [hx] at hq;cases hq
    exact absurd hkq hk
   ·exact h
  ·exact .inr
 ·intro q x hq hlq hkq
  rw [ew hi]
  exact .inr (I.allocs q x hq hlq hkq)
 ·intro q x k hmq hlq hkq hls hr hh
  rw [ew hi] at hls
  exact later q x k hmq hlq hkq (hls.symm.imp id (fun h=>r.uniq hx hlq h)) hr hh
 ·intro b hb hn hne
  refine free b hb hn fun q x hmq hlq hkq hls hr=>hne q x hmq hlq hkq ?_ hr
  rw [ew hi]
  rcases hls with h|h
  ·exact .inr h
  ·subst h;rw [hx] at hlq;cases hlq;exact .inl rfl
theorem Inv.next (r:Reg P C ops l E H V R) (I:Inv P ops l E H V R μ0 w0 listed p G μ a w) (hx:l[p]? = some (i,o)) (he:fE o listed) (hk:aW P o = .eff)
  {G':ak} {μ':Mu} {a':Act} {w':World} (g0:G'.n0=G.n0) (g1:G'.bm=G.bm) (g2:G'.next=G.next)
  (here : ∀ b k,(H 0).n0≤b→(H (p+1)).get b=some k→G'.get b=some k)
  (later : ∀ (q:Nat) (x:Nat×Oper) (k:dA),p+1≤q→l[q]? = some x→aW P x.2 = .alloc→listed.getD x.1 false=true→R q=true→H (q+1)=(H q).alloc k→G'.get (H q).next=some k)
  (free : ∀ b,(H (p+1)).next≤b→b<(H l.length).next→(∀ (q:Nat) (x:Nat×Oper),p+1≤q→l[q]? = some x→aW P x.2 = .alloc→listed.getD x.1 false=true→R q=true→b≠(H q).next)→μ' b=none)
  (sim:de μ' G' w') (stp:Step μ0 (H 0) w0 μ' G' w') (env:ERel μ' (eP l V (xsOf l (listed.setIfInBounds i true)) (E 0) l.length) a') :
  Inv P ops l E H V R μ0 w0 (listed.setIfInBounds i true) (p+1) G' μ' a' w':=by
 have hi:=I.inb r hx
 have hother : ∀ (q:Nat) (x:Nat×Oper),l[q]? = some x→aW P x.2 = .alloc→(listed.setIfInBounds i true).getD x.1 false=true→listed.getD x.1 false=true:=by
  intro q x hlq hkq hls
  rw [ew hi] at hls
  rcases hls with h|h
  ·obtain rfl:=r.uniq hx hlq h
   rw [hx] at hlq;cases hlq
   rw [hk] at hkq;cases hkq
  ·exact h
 refine ⟨by simpa using I.size,I.closed' r hx he,r.lt hx,?_,?_,g0.trans I.gn0,g1.trans I.gold,g2.trans I.gnext,here,?_,?_,sim,stp,env⟩
 ·intro q x hq hkq
  rw [ew hi]
  constructor
  ·rintro (h|h)
   ·obtain rfl:=r.uniq hx hq h;omega
   ·have:=(I.effs q x hq hkq).1 h;omega
  ·intro h
   rcases Nat.lt_or_ge q p with h2|h2
   ·exact .inr ((I.effs q x hq hkq).2 h2)
   ·obtain rfl:q=p:=by omega
    rw [hx] at hq;cases hq;exact .inl rfl
 ·intro q x hq hlq hkq
  rw [ew hi]
  rcases Nat.lt_or_ge q p with h2|h2
  ·exact .inr (I.allocs q x h2 hlq hkq)
  ·obtain rfl:q=p:=by omega
   rw [hx] at hlq;cases hlq;exact .inl rfl
 ·intro q x k hmq hlq hkq hls hr hh
  exact later q x k hmq hlq hkq (hother q x hlq hkq hls) hr hh
 ·intro b hb hn hne
  refine free b hb hn fun q x hmq hlq hkq hls hr=>hne q x hmq hlq hkq ?_ hr
  rw [ew hi];exact .inr hls
theorem clash_eff {x y:Nat×Oper} (h1:aW P x.2 = .eff) (h2:aW P y.2 = .eff):clash P ops x y=true:=by
 unfold clash;simp [h1,h2]
theorem clash_alloc {x y:Nat×Oper} (h1:aW P x.2 = .alloc) (h2:aW P y.2 = .eff∨aW P y.2 = .read):clash P ops x y=true:=by
 unfold clash;rcases h2 with h2|h2<;>simp [h1,h2]
theorem Inv.to_eff (r:Reg P C ops l E H V R) (I:Inv P ops l E H V R μ0 w0 listed m G μ a w) (hx:l[p]? = some (i,o)) (hnl:listed.getD i false=false) (he:fE o listed) (hk:aW P o = .eff) :
  Inv P ops l E H V R μ0 w0 listed p G μ a w:=by
 have ho:=r.at_ p i o hx
 have ahead : ∀ (q:Nat) (x:Nat×Oper),q<p→l[q]? = some x→(aW P x.2 = .eff∨aW P x.2 = .alloc)→listed.getD x.1 false=true:=by
  intro q x hq hlq hkq
  rcases (r.ord q p _ _ hq hlq hx).2.2 with h|h
  ·exact I.ready ho he h
  ·rcases hkq with h2|h2
   ·rw [clash_eff h2 hk] at h;cases h
   ·rw [clash_alloc h2 (.inl hk)] at h;cases h
 have behind : ∀ (q:Nat) (x:Nat×Oper),p≤q→l[q]? = some x→aW P x.2 = .eff→listed.getD x.1 false=false:=by
  intro q x hq hlq hkq
  rcases Nat.lt_or_ge p q with h|h
  ·rcases (r.ord p q _ _ h hx hlq).2.2 with h2|h2
   ·cases hl:listed.getD x.1 false with
    |false=>rfl
    |true=>rw [I.before r hl h2] at hnl;cases hnl
   ·rw [clash_eff hk hkq] at h2;cases h2
  ·obtain rfl:q=p:=by omega
   rw [hx] at hlq;cases hlq;exact hnl
 have hmp:m≤p:=by
  rcases Nat.lt_or_ge p m with h|h
  ·rw [(I.effs p _ hx hk).2 h] at hnl;cases hnl
  ·exact h
 refine I.advance r hmp (Nat.le_of_lt (r.lt hx)) ?_ ?_ behind
 ·intro q x hmq hqp hlq hkq
  have:=(I.effs q x hlq hkq).1 (ahead q x hqp hlq (.inl hkq))
  omega
 ·intro q x hmq hqp hlq hkq
  exact ahead q x hqp hlq (.inr hkq)
theorem Inv.sub (r:Reg P C ops l E H V R) (I:Inv P ops l E H V R μ0 w0 listed m G μ a w):Sub (H m) G:=by
 obtain ⟨h1,h2⟩:=r.n0 I.le
 exact ⟨h1.trans I.gn0.symm,h2.trans I.gold.symm,fun b k hb hg=>I.here b k (h1▸hb) hg⟩
theorem Reg.alloc_next (r:Reg P C ops l E H V R) {q:Nat} {x:Nat×Oper} (hx:l[q]? = some x) (hk:aW P x.2 = .alloc) (hr:R q=true):(H (q+1)).next=(H q).next+1:=by
 obtain ⟨k,mk,h3,_⟩:=kind_alloc hk ((r.tra.step q x hx).2.2.1 hr)
 rw [h3];rfl
theorem first_of {Q:Nat→Prop} : ∀ (n m p:Nat),p≤n→(∃ q,m≤q∧q<p∧Q q) → ∃ j,m≤j∧j<p∧Q j ∧ ∀ q,m≤q→q<j → ¬Q q
 | 0,m,p,hp,h=>by obtain ⟨q,_,h2,_⟩:=h;omega
 |n+1,m,p,hp,⟨q,h1,h2,h3⟩=>by
  by_cases h : ∃ q',m≤q'∧q'<q∧Q q'
  ·obtain ⟨j,g1,g2,g3,g4⟩:=first_of n m q (by omega) h
   exact ⟨j,g1,by omega,g3,g4⟩
  ·exact ⟨q,h1,h2,h3,fun q' g1 g2 g3=>h ⟨q',g1,g2,g3⟩⟩
theorem last_of {Q:Nat→Prop} : ∀ (n m p:Nat),p≤m+n→(∃ q,m≤q∧q<p∧Q q) → ∃ j,m≤j∧j<p∧Q j ∧ ∀ q,j<q→q<p → ¬Q q
 | 0,m,p,hp,h=>by obtain ⟨q,h1,h2,_⟩:=h;omega
 |n+1,m,p,hp,⟨q,h1,h2,h3⟩=>by
  by_cases h : ∃ q',m+1≤q'∧q'<p∧Q q'
  ·obtain ⟨j,g1,g2,g3,g4⟩:=last_of n (m+1) p (by omega) h
   exact ⟨j,by omega,g2,g3,g4⟩
  ·have:q=m:=by
    rcases Nat.lt_or_ge m q with h5|h5
    ·exact absurd ⟨q,h5,h2,h3⟩ h
    ·omega
   subst this
   exact ⟨q,Nat.le_refl _,h2,h3,fun q' g1 g2 g3=>h ⟨q',g1,g2,g3⟩⟩
theorem Inv.step (r:Reg P C ops l E H V R) (I:Inv P ops l E H V R μ0 w0 listed m G μ a w) (hx:l[p]? = some (i,o)) (hnl:listed.getD i false=false) (he:fE o listed) (hg:P.globals.size≤(H 0).n0)
  {K:Act→World→Prop} {Q:Exit→Act→World→Prop} (hK : ∀ m' G' μ' a' w',Inv P ops l E H V R μ0 w0 (listed.setIfInBounds i true) m' G' μ' a' w'→K a' w'):wpOp P ops Q i K a w:=by
 have ho:=r.at_ p i o hx
 have hp:=r.lt hx
 have hi:=I.inb r hx
 have hT:=r.tra.step p _ hx
 unfold wpOp
 rw [ho]
 simp only
 rw [I.wanted r hx hnl he]
 cases hR:R p with
 |false=>
  obtain ⟨hv,hH⟩:=hT.2.2.2 hR
  simp only [Bool.false_eq_true,if_false]
  have henv : ∀ {m':Nat} (I':Inv P ops l E H V R μ0 w0 listed m' G μ a w),ERel μ (eP l V (xsOf l (listed.setIfInBounds i true)) (E 0) l.length) (a.put o.dst undef):=by
   intro m' I'
   rw [I'.listing r hx hnl he,hv]
   exact I'.env.put o.dst undef_rel
  by_cases hk:aW P o = .eff
  ·have I':=I.to_eff r hx hnl he hk
   refine hK _ _ _ _ _ (I'.next r hx he hk rfl rfl rfl ?_ ?_ ?_ I'.sim I'.stp (henv I'))
   ·intro b k hb hgb
    rw [hH] at hgb
    exact I'.here b k hb hgb
   ·intro q x k hq hlq hkq hls hr hh
    exact I'.later q x k (by omega) hlq hkq hls hr hh
   ·intro b hb hn hne
    rw [hH] at hb
    refine I'.free b hb hn fun q x hq hlq hkq hls hr => ?_
    rcases Nat.lt_or_ge p q with h|h
    ·exact hne q x h hlq hkq hls hr
    ·obtain rfl:q=p:=by omega
     rw [hR] at hr;cases hr
  ·refine hK _ _ _ _ _ (I.same r hx he hk rfl rfl rfl I.here ?_ ?_ I.sim I.stp (henv I))
   ·intro q x k hq hlq hkq hls hr hh
    rcases hls with h|h
    ·exact I.later q x k hq hlq hkq h hr hh
    ·subst h;rw [hR] at hr;cases hr
   ·intro b hb hn hne
    exact I.free b hb hn fun q x hq hlq hkq hls hr=>hne q x hq hlq hkq (.inl hls) hr
 |true=>
  simp only [if_true]
  refine .inl ?_
  have hop:=hT.2.2.1 hR
  have quiet : ∀ {hs:ak},Sub hs G→opA P C o (ev (E p)) hs=some (V p,hs)→(H 0).next≤hs.next→hs.next≤G.next→aW P o ≠ .eff→aW P o ≠ .alloc→o.wp P a w K Q:=by
   intro hs hsub hop hlo hhi hk hk2
   refine I.run r hx hnl he hg hsub (fun h=>absurd h hk) hop (fun b h1 h2=>by omega) hlo hhi ?_
   intro μ1 v' w1 G' hS hSt hv henv g0 g1 g2 g3 g4 hμ
   have hμ' : ∀ b,μ1 b=μ b:=fun b=>hμ b (by omega)
   have dV : ∀ b k,(H 0).n0≤b→G.get b=some k→G'.get b=some k:=by
    intro b k hb hgb
    rw [←I.gn0] at hb
    cases hh:hs.get b with
    |none=>exact g4 b k hb hgb hh (by omega) hh
    |some k'=>
     have:=hsub.2.2 b k' (hsub.1▸hb) hh
     rw [hgb] at this;cases this
     exact g3 b k hb hh
   refine hK _ _ _ _ _ (I.same r hx he hk g0 g1 g2 (fun b k hb hgb=>dV b k hb (I.here b k hb hgb)) ?_ ?_ hS hSt henv)
   ·intro q x k hq hlq hkq hls hr hh
    rcases hls with h|h
    ·refine dV _ _ ?_ (I.later q x k hq hlq hkq h hr hh)
     have:=(H q).bg
     rw [(r.n0 (Nat.le_of_lt (r.lt hlq))).1] at this
     exact this
    ·subst h;rw [hx] at hlq;cases hlq;exact absurd hkq hk2
   ·intro b hb hn hne
    rw [hμ']
    exact I.free b hb hn fun q x hq hlq hkq hls hr=>hne q x hq hlq hkq (.inl hls) hr
  cases hk:aW P o with
  |pure=>
   refine quiet (I.sub r) ((kind_pure hk hop).2 (H m)) (r.eM (Nat.zero_le m) I.le) ?_ (by rw [hk];simp) (by rw [hk];simp)
   rw [I.gnext];exact r.eM I.le (Nat.le_refl _)
  |read=>
   have hre:H (p+1)=H p:=kind_read hk hop
   rw [hre] at hop
   have hbound : ∀ {q:Nat},q≤l.length→(H 0).next≤(H q).next∧(H q).next≤G.next:=fun hq=>⟨r.eM (Nat.zero_le _) hq,by rw [I.gnext];exact r.eM hq (Nat.le_refl _)⟩
   have q0:aW P o ≠ .eff:=by rw [hk];simp
   have q1:aW P o ≠ .alloc:=by rw [hk];simp
   have allocs_in : ∀ (q:Nat) (x:Nat×Oper),q<p→l[q]? = some x→aW P x.2 = .alloc→listed.getD x.1 false=true:=by
    intro q x hq hlq hkq
    rcases (r.ord q p _ _ hq hlq hx).2.2 with h|h
    ·exact I.ready ho he h
    ·rw [clash_alloc hkq (.inr hk)] at h;cases h
   have late_effs : ∀ {j:Nat},m≤j → ∀ (q:Nat) (x:Nat×Oper),j≤q→l[q]? = some x→aW P x.2 = .eff→listed.getD x.1 false=false:=by
    intro j hj q x hq hlq hkq
    cases hl:listed.getD x.1 false with
    |false=>rfl
    |true=>have:=(I.effs q x hlq hkq).1 hl;omega
   rcases Nat.lt_or_ge p m with hpm|hmp
   ·by_cases hex : ∃ q,p≤q∧q<m ∧ ∃ x,l[q]? = some x∧aW P x.2 = .eff
    ·obtain ⟨j,h1,h2,⟨x,h3,h4⟩,h5⟩:=last_of m p m (by omega) hex
     have hjp:p<j:=by
      rcases Nat.lt_or_ge p j with h|h
      ·exact h
      ·obtain rfl:j=p:=by omega
       rw [hx] at h3;cases h3;exact absurd h4 q0
     have hls:=(I.effs j x h3 h4).2 h2
     have nb1:=(r.ord p j _ _ hjp hx h3).2.1
     have nb2:eJ (fi ops) x.1 i=false:=by
      cases hb:eJ (fi ops) x.1 i with
      |false=>rfl
      |true=>rw [I.before r hls hb] at hnl;cases hnl
     obtain ⟨h',hop'⟩:=r.dyn p j _ _ hx h3 hk hR h4 nb1 nb2
     rw [if_neg (by omega),madeIn_nil (by omega)] at hop'
     have hop':opA P C o (ev (E p)) (H (j+1))=some (V p,h'):=hop'
     have:=kind_read hk hop'
     subst this
     have hne:=(r.tra.noeff r.hC (show j+1≤m by omega) I.le (fun q y g1 g2 g3 g4=>h5 q (by omega) g2 ⟨y,g3,g4⟩)).1
     have hsub:Sub (H (j+1)) G:=by
      have hj1:j+1≤l.length:=Nat.le_trans h2 I.le
      obtain ⟨e1,e2⟩:=r.n0 hj1
      exact ⟨e1.trans I.gn0.symm,e2.trans I.gold.symm,fun b k hb hgb=>I.here b k (e1▸hb) (hne b k hgb)⟩
     exact quiet hsub hop' (hbound (Nat.le_trans h2 I.le)).1 (hbound (Nat.le_trans h2 I.le)).2 q0 q1
    ·have hne:=(r.tra.noeff r.hC (Nat.le_of_lt hpm) I.le (fun q y g1 g2 g3 g4=>hex ⟨q,g1,g2,y,g3,g4⟩)).1
     have hsub:Sub (H p) G:=by
      obtain ⟨e1,e2⟩:=r.n0 (Nat.le_of_lt hp)
      exact ⟨e1.trans I.gn0.symm,e2.trans I.gold.symm,fun b k hb hgb=>I.here b k (e1▸hb) (hne b k hgb)⟩
     exact quiet hsub hop (hbound (Nat.le_of_lt hp)).1 (hbound (Nat.le_of_lt hp)).2 q0 q1
   ·by_cases hex : ∃ q,m≤q∧q<p ∧ ∃ x,l[q]? = some x∧aW P x.2 = .eff
    ·obtain ⟨j,h1,h2,⟨x,h3,h4⟩,h5⟩:=first_of p m p (Nat.le_refl _) hex
     have hls:=late_effs (Nat.le_refl m) j x h1 h3 h4
     have nb1:eJ (fi ops) i x.1=false:=by
      cases hb:eJ (fi ops) i x.1 with
      |false=>rfl
      |true=>rw [I.ready ho he hb] at hls;cases hls
     have nb2:=(r.ord j p _ _ h2 h3 hx).2.1
     obtain ⟨h',hop'⟩:=r.dyn p j _ _ hx h3 hk hR h4 nb1 nb2
     rw [if_pos h2] at hop'
     have:=kind_read hk hop'
     subst this
     have hjl:j≤l.length:=by omega
     have I':=I.advance r h1 hjl (fun q y g1 g2 g3 g4=>h5 q g1 g2 ⟨y,g3,g4⟩) (fun q y g1 g2 g3 g4=>allocs_in q y (by omega) g3 g4) (late_effs h1)
     obtain ⟨u1,u2,u3⟩:=I'.sub r
     obtain ⟨v1,v2,v3⟩:=plusAll_sub (H:=H) (R:=R) (G:=G) (fg P l (p,j)) (H j) G.next madeIn_sorted (fun q hq=>r.eM (fk hq).1 (by have:=(fk hq).2.1;omega))
      (fun q hq q' hq' hlt=>r.eM (by omega) (by have:=(fk hq').2.1;omega)) (fun q hq=>⟨r.eM (by omega) (by have:=(fk hq).2.1;omega),(hbound (by have:=(fk hq).2.1;omega)).2⟩) (hbound hjl).2
      (fun q hq hRq=>by
       obtain ⟨g1,g2,y,g3,g4⟩:=fk hq
       obtain ⟨k,mk,hH,_⟩:=kind_alloc g4 ((r.tra.step q y g3).2.2.1 hRq)
       exact ⟨k,hH,I'.later q y k g1 g3 g4 (allocs_in q y g2 g3 g4) hRq hH⟩) u1 u2 u3
     exact quiet v1 hop' (Nat.le_trans (hbound hjl).1 v2) v3 q0 q1
    ·have I':=I.advance r hmp (Nat.le_of_lt hp) (fun q y g1 g2 g3 g4=>hex ⟨q,g1,g2,y,g3,g4⟩) (fun q y g1 g2 g3 g4=>allocs_in q y g2 g3 g4) (late_effs hmp)
     exact quiet (I'.sub r) hop (hbound (Nat.le_of_lt hp)).1 (hbound (Nat.le_of_lt hp)).2 q0 q1
  |alloc=>
   obtain ⟨k,mk,hH,hV,hany⟩:=kind_alloc hk hop
   have hmp:m≤p:=by
    rcases Nat.lt_or_ge p m with h|h
    ·rw [I.allocs p _ h hx hk] at hnl;cases hnl
    ·exact h
   have hN0:=(H p).bg
   obtain ⟨en0,eold⟩:=r.n0 (Nat.le_of_lt hp)
   obtain ⟨b1,b2,b3,b4⟩:=heapOf_spec G.n0 G.bm (fun _=>none) ((H p).next-G.n0)
   have hnn:G.n0+((H p).next-G.n0)=(H p).next:=by rw [I.gn0];omega
   rw [hnn] at b3
   generalize heapOf G.n0 G.bm (fun _=>none) ((H p).next-G.n0)=hs at b1 b2 b3 b4
   have hnone : ∀ b,G.n0≤b→hs.get b=none:=fun b hb=>by rw [b4 b hb];split<;>rfl
   have hsub:Sub hs G:=⟨b1,b2,fun b k' hb hgb=>by rw [hnone b (b1▸hb)] at hgb;cases hgb⟩
   have hop':opA P C o (ev (E p)) hs=some (V p,hs.alloc k):=by rw [hany hs,b3,←hV]
   have hnext:(H (p+1)).next=(H p).next+1:=r.alloc_next hx hk hR
   have hlast:(H (p+1)).next≤(H l.length).next:=r.eM hp (Nat.le_refl l.length)
   have distinct : ∀ (q:Nat) (x:Nat×Oper),l[q]? = some x→aW P x.2 = .alloc→R q=true→q≠p→(H q).next≠(H p).next:=by
    intro q x hlq hkq hr hqp
    have hq1:=r.alloc_next hlq hkq hr
    rcases Nat.lt_or_gt_of_ne hqp with h|h
    ·have:=r.eM (show q+1≤p by omega) (Nat.le_of_lt hp);omega
    ·have:=r.eM (show p+1≤q by omega) (Nat.le_of_lt (r.lt hlq));omega
   have hmn:=r.eM hmp (Nat.le_of_lt hp)
   have h1get : ∀ b,G.n0≤b→b≠(H p).next→(hs.alloc k).get b=none:=by
    intro b hb hne
    rw [ak.aM,b3,if_neg hne];exact hnone b hb
   refine I.run r hx hnl he hg hsub (fun h=>by rw [hk] at h;cases h) hop' ?_ (by rw [b3];exact r.eM (Nat.zero_le p) (Nat.le_of_lt hp)) (by rw [ak.cA,b3,I.gnext];omega) ?_
   ·intro b hb hn
    rw [ak.cA] at hn
    rw [b3] at hb hn
    obtain rfl:b=(H p).next:=by omega
    refine I.free _ hmn (by omega) fun q x hq hlq hkq hls hr => ?_
    refine (distinct q x hlq hkq hr ?_).symm
    rintro rfl
    rw [hx] at hlq;cases hlq
    rw [hnl] at hls;cases hls
   ·intro μ1 v' w1 G' hS hSt hv henv g0 g1 g2 g3 g4 hμ
    rw [ak.cA,b3] at hμ
    have dV : ∀ b k',G.n0≤b→b≠(H p).next→G.get b=some k'→G'.get b=some k':=by
     intro b k' hb hne hgb
     exact g4 b k' hb hgb (hnone b hb) (by rw [ak.cA,b3];omega) (h1get b hb hne)
    refine hK _ _ _ _ _ (I.same r hx he (by rw [hk];simp) g0 g1 g2 ?_ ?_ ?_ hS hSt henv)
    ·intro b k' hb hgb
     have:=(H m).bT hgb
     exact dV b k' (I.gn0▸hb) (by omega) (I.here b k' hb hgb)
    ·intro q x k' hq hlq hkq hls hr hh
     by_cases hqp:q=p
     ·subst hqp
      have hkk:k'=k:=by
       have e1:(H (q+1)).get (H q).next=some k':=by rw [hh,ak.aM,if_pos rfl]
       rw [hH,ak.aM,if_pos rfl] at e1
       exact (Option.some.inj e1).symm
      subst hkk
      exact g3 _ _ (by rw [I.gn0];omega) (by rw [ak.aM,b3,if_pos rfl])
     ·have hn0:=(H q).bg
      rw [(r.n0 (Nat.le_of_lt (r.lt hlq))).1,←I.gn0] at hn0
      exact dV _ _ hn0 (distinct q x hlq hkq hr hqp) (I.later q x k' hq hlq hkq (hls.resolve_right hqp) hr hh)
    ·intro b hb hn hne
     have hbp:b≠(H p).next:=hne p _ hmp hx hk (.inr rfl) hR
     rw [hμ b (by omega)]
     exact I.free b hb hn fun q x hq hlq hkq hls hr=>hne q x hq hlq hkq (.inl hls) hr
  |eff=>
   have I':=I.to_eff r hx hnl he hk
   refine I'.run r hx hnl he hg (I'.sub r) (fun _=>⟨fun x hm=>bd_ev (by rw [(r.n0 (Nat.le_of_lt hp)).1];exact hg) (r.bdE p (Nat.le_of_lt hp)) (List.all_eq_true.1 (r.ok o (by rw [Array.mem_toList_iff];exact Array.mem_of_getElem? ho)) x hm),r.bdH p (Nat.le_of_lt hp)⟩) hop ?_ (r.eM (Nat.zero_le p) (Nat.le_of_lt hp)) (by rw [I.gnext];exact r.eM hp (Nat.le_refl _)) ?_
   ·intro b hb hn
    refine I'.free b hb (Nat.lt_of_lt_of_le hn (r.eM hp (Nat.le_refl _))) fun q x hq hlq hkq hls hr => ?_
    rcases Nat.lt_or_ge p q with h|h
    ·have:=r.eM (show p+1≤q by omega) (Nat.le_of_lt (r.lt hlq));omega
    ·obtain rfl:q=p:=by omega
     rw [hx] at hlq;cases hlq;rw [hk] at hkq;cases hkq
   ·intro μ1 v' w1 G' hS hSt hv henv g0 g1 g2 g3 g4 hμ
    refine hK _ _ _ _ _ (I'.next r hx he hk g0 g1 g2 (fun b k hb hgb=>g3 b k (I.gn0▸hb) hgb) ?_ ?_ hS hSt henv)
    ·intro q x k hq hlq hkq hls hr hh
     have hq1:=r.eM hq (Nat.le_of_lt (r.lt hlq))
     have hn0:=(H q).bg
     rw [(r.n0 (Nat.le_of_lt (r.lt hlq))).1,←I.gn0] at hn0
     refine g4 _ k hn0 (I'.later q x k (by omega) hlq hkq hls hr hh) ?_ (.inr hq1) ?_
     ·cases hh2:(H p).get (H q).next with
      |none=>rfl
      |some k'=>
       have:=(H p).bT hh2
       have:=r.eM (show p≤p+1 by omega) hp
       omega
     ·cases hh2:(H (p+1)).get (H q).next with
      |none=>rfl
      |some k'=>have:=(H (p+1)).bT hh2;omega
    ·intro b hb hn hne
     rw [hμ b (.inr hb)]
     refine I'.free b (Nat.le_trans (r.eM (show p≤p+1 by omega) hp) hb) hn fun q x hq hlq hkq hls hr => ?_
     rcases Nat.lt_or_ge p q with h|h
     ·exact hne q x h hlq hkq hls hr
     ·obtain rfl:q=p:=by omega
      rw [hx] at hlq;cases hlq;rw [hk] at hkq;cases hkq
end inv
end Go.Abs

namespace Go.Abs
section any
variable {P:Program} {C:av} {ops:Array Oper} {l:List (Nat×Oper)} {E:Nat→Env} {H:Nat→ak} {V:Nat→Value} {R:Nat→Bool} {μ0:Mu} {w0:World}
theorem Reg.any (r:Reg P C ops l E H V R) (hg:P.globals.size≤(H 0).n0) {Q:Exit→Act→World→Prop}
  (hQ : ∀ μ a w,de μ (H l.length) w→Step μ0 (H 0) w0 μ (H l.length) w→ERel μ (E l.length) a→Q .normal a w) :
  ∀ (fuel:Nat) (L:List Nat) (listed:Array Bool) (m:Nat) (G:ak) (μ:Mu) (a:Act) (w:World),Inv P ops l E H V R μ0 w0 listed m G μ a w →
    (∀ i,i<ops.size→listed.getD i false=false→i∈L)→L.length≤fuel→wpAny P .any ops Q fuel listed a w:=by
 have all_listed : ∀ {listed:Array Bool} {m:Nat} {G:ak} {μ:Mu} {a:Act} {w:World},Inv P ops l E H V R μ0 w0 listed m G μ a w→Region.ready .any ops listed = [] → ∀ i,i<ops.size→listed.getD i false=true:=by
  intro listed m G μ a w I hr i
  induction i using Nat.strongRecOn with
  |_ i ih=>
   intro hi
   cases hl:listed.getD i false with
   |true=>rfl
   |false=>
    have ho:ops[i]? = some ops[i]:=Array.getElem?_eq_getElem hi
    have:i∈Region.ready .any ops listed:=by
     rw [mem_ready]
     refine ⟨?_,ops[i],ho,fun e he hb => ?_⟩
     ·have hs:i<listed.size:=by rw [I.size];exact hi
      simpa [hs] using hl
     ·have hlt:=r.fwd i _ ho e (by simpa using he) hb
      exact ih e.on hlt (by omega)
    rw [hr] at this;cases this
 have fin : ∀ {listed:Array Bool} {m:Nat} {G:ak} {μ:Mu} {a:Act} {w:World},Inv P ops l E H V R μ0 w0 listed m G μ a w→Region.ready .any ops listed = []→Q .normal a w:=by
  intro listed m G μ a w I hr
  have hall:=all_listed I hr
  have hl : ∀ (q:Nat) (x:Nat×Oper),l[q]? = some x→listed.getD x.1 false=true:=by
   intro q x hx
   exact hall x.1 (Array.getElem?_eq_some_iff.1 (r.at_ q x.1 x.2 hx)).1
  have I':=I.advance r I.le (Nat.le_refl _)
   (fun q x h1 h2 h3 h4=>by have:=(I.effs q x h3 h4).1 (hl q x h3);omega)
   (fun q x _ _ h3 _=>hl q x h3) (fun q x h1 h2 _=>by have:=r.lt h2;omega)
  have hsub:=I'.sub r
  have hS:=I.sim.sub hsub
  refine hQ μ a w hS ?_ ?_
  ·have st:=I.stp
   obtain ⟨e1,e2⟩:=r.n0 (Nat.le_refl l.length)
   refine ⟨?_,e1,e2,r.eM (Nat.zero_le _) (Nat.le_refl _),st.os,st.tape,st.output,st.size,st.same,?_⟩
   ·intro b hb
    rw [←I.gnext] at hb
    exact st.ext b hb
   ·intro B hB
    exact st.own B (hB.sub hsub)
  ·have henv:=I.env
   have:eP l V (xsOf l listed) (E 0) l.length=E l.length:=by
    rw [tra_env r.tra rfl l.length (Nat.le_refl _)]
    apply List.ext_getElem?
    intro t
    refine envS_congr _ fun q hq _ => ?_
    unfold xsOf
    rw [List.getElem?_eq_getElem hq]
    exact hl q _ (List.getElem?_eq_getElem hq)
   rw [this] at henv
   exact henv
 intro fuel
 induction fuel with
 |zero=>
  intro L listed m G μ a w I hL hlen
  have hnil:L = []:=List.eq_nil_of_length_eq_zero (by omega)
  have hready:Region.ready .any ops listed = []:=by
   apply List.eq_nil_iff_forall_not_mem.2
   intro i hi
   rw [mem_ready] at hi
   obtain ⟨h1,o,ho,_⟩:=hi
   have hlt:=(Array.getElem?_eq_some_iff.1 ho).1
   have:=hL i hlt (by
    have hs:i<listed.size:=by rw [I.size];exact hlt
    simpa [hs] using h1)
   rw [hnil] at this;cases this
  exact ⟨hready,fin I hready⟩
 |succ fuel ih=>
  intro L listed m G μ a w I hL hlen
  refine ⟨fin I,?_⟩
  intro i hi
  rw [mem_ready] at hi
  obtain ⟨h1,o,ho,he⟩:=hi
  have hlt:=(Array.getElem?_eq_some_iff.1 ho).1
  have hs:i<listed.size:=by rw [I.size];exact hlt
  have hnl:listed.getD i false=false:=by simpa [hs] using h1
  obtain ⟨p,hp⟩:=r.pos i o ho
  refine I.step r hp hnl (fun e hm hb=>he e (by simpa using hm) hb) hg ?_
  intro m' G' μ' a' w' I'
  refine ih (L.erase i) _ m' G' μ' a' w' I' ?_ ?_
  ·intro j hj hjl
   have hne:j≠i:=by
    rintro rfl
    have:=(ew (j:=j) hs).2 (.inl rfl)
    rw [this] at hjl;cases hjl
   refine (List.mem_erase_of_ne hne).2 (hL j hj ?_)
   cases hq:listed.getD j false with
   |false=>rfl
   |true=>have:=(ew (j:=j) hs).2 (.inr hq);rw [this] at hjl;cases hjl
  ·rw [List.length_erase_of_mem (hL i hlt hnl)];omega
end any
theorem zip_map_range {α:Type} (l:List (Nat×Oper)) (f:Nat→α) : ∀ (p:Nat) (x:Nat×Oper),l[p]? = some x→(l.zip ((List.range l.length).map f))[p]? = some (x,f p):=by
 intro p x hx
 have hp:p<l.length:=(List.getElem?_eq_some_iff.1 hx).1
 rw [List.getElem?_zip_eq_some]
 exact ⟨hx,by rw [List.getElem?_map,List.getElem?_range hp];rfl⟩
theorem region_draw_sound {P:Program} {C:av} (hC:bH P C) (hm:P.follows .mixedOrders=true) {id:Nat} {ops:Array Oper} {Q:Exit→Act→World→Prop} {μ:Mu} {e e':Env} {h h':ak} {a:Act} {w:World}
  (hok:ops.toList.all (operOk P)=true) (he:cR P C ops true e h=some (e',h')) (hg:P.globals.size≤h.n0) (hbe:dy h.next e=true) (hbh:bc h) (S:de μ h w) (hf:ft μ h h') (rr:ERel μ e a)
  (hQ : ∀ a' w',Behind μ h w e' h' a' w'→Q .normal a' w'):(Code.region id ops true).wp P Q a w:=by
 unfold cR at he
 simp only [if_true] at he
 split at he
 ·rename_i hst
  split at he
  ·rename_i tr e1 h1 htr
   split at he
   ·rename_i hdyn
    simp only [Option.some.injEq,Prod.mk.injEq] at he
    obtain ⟨rfl,rfl⟩:=he
    obtain ⟨E,H,V,R,e0,h0,en,hn,T,htr'⟩:=trace_tra htr
    simp only [statOk,Bool.and_eq_true] at hst
    obtain ⟨⟨⟨hlen,hgd⟩,hfw⟩,hpairs⟩:=hst
    have hat : ∀ (p i:Nat) (o:Oper),(late P ops)[p]? = some (i,o)→ops[i]? = some o:=fun p i o hx=>mem_late.1 (List.mem_of_getElem? hx)
    have hbd:=T.bd hC (by rw [h0];exact hg) (fun p x hx=>List.all_eq_true.1 hok x.2 (by rw [Array.mem_toList_iff];exact Array.mem_of_getElem? (hat p x.1 x.2 hx))) (by rw [h0,e0];exact hbe) (by rw [h0];exact hbh)
    have r:Reg P C ops (late P ops) E H V R:=by
     refine ⟨hC,T,by simpa using hlen,?_,hat,?_,?_,?_,?_,?_,fun p hp=>(hbd p hp).1,fun p hp=>(hbd p hp).2⟩
     ·intro i o ho
      obtain ⟨p,hp⟩:=List.getElem?_of_mem ((mem_late (P:=P)).2 ho)
      exact ⟨p,hp⟩
     ·intro i o ho e hem hb
      have:=List.all_eq_true.1 hfw (o,i) (List.mem_zipIdx_iff_getElem?.2 (by simpa using ho))
      simp only [Array.all_eq_true_iff_forall_mem] at this
      have:=this e (by simpa using hem)
      simp only [hb,Bool.not_true,Bool.false_or,decide_eq_true_eq] at this
      exact this
     ·intro p i o j b hx hgo
      have:=List.all_eq_true.1 hgd (i,o) (List.mem_of_getElem? hx)
      simp only [hgo,Bool.and_eq_true] at this
      exact this.2
     ·intro p q x y hpq hx hy
      have:=pairs_spec hpairs hpq hx hy
      simp only [Bool.and_eq_true,bne_iff_ne,ne_eq,Bool.not_eq_true',Bool.or_eq_true] at this
      exact ⟨this.1.1,this.1.2,this.2⟩
     ·intro p q x y hx hy hkx hr hky nb1 nb2
      have hp:p<(late P ops).length:=(List.getElem?_eq_some_iff.1 hx).1
      have hq:q<(late P ops).length:=(List.getElem?_eq_some_iff.1 hy).1
      unfold dynOk at hdyn
      simp only at hdyn
      have hzip:=zip_map_range (late P ops) (fun p=>(⟨E p,H p,V p,R p⟩:Tr1)) p x hx
      rw [←htr'] at hzip
      have d1:=List.all_eq_true.1 hdyn ((x,⟨E p,H p,V p,R p⟩),p) (List.mem_zipIdx_iff_getElem?.2 (by simpa using hzip))
      simp only [hkx,hr,beq_self_eq_true,Bool.and_self,Bool.not_true,Bool.false_or] at d1
      have d2:=List.all_eq_true.1 d1 (y,q) (by
       rw [List.mem_filter]
       exact ⟨List.mem_zipIdx_iff_getElem?.2 (by simpa using hy),by simp [hky]⟩)
      simp only [nb1,nb2,Bool.false_or] at d2
      have hhs : ∀ j,j≤(late P ops).length→(tr.map (·.h) ++ [h1])[j]? = some (H j):=by
       intro j hj
       have hl:(tr.map (·.h)).length=(late P ops).length:=by rw [htr'];simp
       rcases Nat.lt_or_ge j (late P ops).length with hlt|hge
       ·rw [List.getElem?_append_left (by omega),htr',List.map_map,List.getElem?_map,List.getElem?_range hlt]
        rfl
       ·obtain rfl:j=(late P ops).length:=by omega
        rw [List.getElem?_append_right (by omega),hl,Nat.sub_self,hn]
        rfl
      have hrs : ∀ j,j<(late P ops).length→(tr.map (·.ran))[j]? = some (R j):=by
       intro j hj
       rw [htr',List.map_map,List.getElem?_map,List.getElem?_range hj]
       rfl
      have hplus : ∀ (mk:List Nat) (h:ak),(∀ r∈mk,r<(late P ops).length)→mk.foldl (plusStep (tr.map (·.ran)) (tr.map (·.h) ++ [h1])) h=plusAll H R h mk:=by
       intro mk
       induction mk with
       |nil=>intro h _;rfl
       |cons r mk ih=>
        intro h hr
        have hr0:=hr r List.mem_cons_self
        have e:plusStep (tr.map (·.ran)) (tr.map (·.h) ++ [h1]) h r=ak.plus (R r) h (H r) (H (r+1)):=by
         unfold plusStep
         rw [hrs r hr0,hhs r (by omega),hhs (r+1) (by omega)]
        rw [List.foldl_cons,e]
        exact ih _ (fun r' h'=>hr r' (List.mem_cons_of_mem _ h'))
      unfold heapAt at d2
      rw [hhs _ (by split<;>omega),Option.map_some,hplus _ _ (fun r hr=>by have:=(fk hr).2.1;omega)] at d2
      simp only [same] at d2
      split at d2
      ·rename_i v hv hop
       rw [veq_eq d2] at hop
       exact ⟨_,hop⟩
      ·cases d2
     ·exact fun o ho=>List.all_eq_true.1 hok o ho
    subst e0 h0 en hn
    refine wp_region_any hm ?_
    have hlist : ∀ j,(Array.replicate ops.size false).getD j false=false:=by
     intro j
     rcases Nat.lt_or_ge j ops.size with hj|hj
     ·simp [hj]
     ·simp [Array.getElem?_eq_none (show (Array.replicate ops.size false).size≤j by simpa using hj)]
    have hgr:=r.eM (Nat.zero_le _) (Nat.le_refl (late P ops).length)
    have hn0:=(H 0).bg
    obtain ⟨g1,g2,g3,g4⟩:=heapOf_spec (H 0).n0 (H 0).bm (H 0).get ((H (late P ops).length).next-(H 0).n0)
    rw [show (H 0).n0+((H (late P ops).length).next-(H 0).n0)=(H (late P ops).length).next from by omega] at g3 g4
    generalize heapOf (H 0).n0 (H 0).bm (H 0).get ((H (late P ops).length).next-(H 0).n0)=G at g1 g2 g3 g4
    have hsub:Sub G (H 0):=⟨g1,g2,fun b k hb hgb=>by
     rw [g4 b (g1▸hb)] at hgb
     split at hgb
     ·exact hgb
     ·cases hgb⟩
    have hxs : ∀ n,eP (late P ops) V (xsOf (late P ops) (Array.replicate ops.size false)) (E 0) n=E 0:=by
     intro n
     induction n with
     |zero=>rfl
     |succ n ih=>
      unfold eP
      have:xsOf (late P ops) (Array.replicate ops.size false) n=false:=by
       unfold xsOf
       split
       ·exact hlist _
       ·rfl
      rw [this,ih];simp
    have I:Inv P ops (late P ops) E H V R μ w (Array.replicate ops.size false) 0 G μ a { w with drawn:=w.drawn+1 }:=by
     refine ⟨by simp,?_,Nat.zero_le _,?_,?_,g1,g2,g3,?_,?_,?_,?_,?_,?_⟩
     ·intro i o hl
      rw [hlist] at hl;cases hl
     ·intro p x _ _
      rw [hlist];simp
     ·intro p x hp;omega
     ·intro b k hb hgb
      rw [g4 b hb,if_pos (Nat.lt_of_lt_of_le ((H 0).bT hgb) hgr)];exact hgb
     ·intro p x k _ _ _ hl
      rw [hlist] at hl;cases hl
     ·intro b hb hn _
      exact hf b hb hn
     ·exact (S.sub hsub).world rfl
     ·exact ⟨fun _ _=>rfl,g1,g2,by rw [g3];exact hgr,rfl,rfl,rfl,Nat.le_refl _,fun _ _ _=>rfl,fun B hB => .inl (hB.sub hsub)⟩
     ·rw [hxs];exact rr
    refine r.any hg (fun μ' a' w' hS hSt hr'=>hQ a' w' ⟨μ',hS,hSt,hr'⟩) ops.size (List.range ops.size) _ 0 G μ a _ I ?_ (by simp)
    intro i hi _
    simpa using hi
   ·cases he
  ·cases he
 ·cases he
end Go.Abs

namespace Go.Abs
def cL (P:Program):Code→Bool
 | .skip | .exit _ | .label _ | .ret=>true
 | .region _ ops _=>ops.toList.all (operOk P)
 | .seq a b=>cL P a&&cL P b
 | .cond c a b=>opdOk P c&&cL P a&&cL P b
 | .block _ b | .loop b | .scope b=>cL P b
 | .goto _ | .rangeFunc .. | .refuse _=>false
def exOf:Ex→Exit
 | .normal => .normal
 | .ret => .ret
 | .exit i => .exit i
section code
variable {P:Program} {C:av}
theorem opsA_grow (hC:bH P C) {ops:Array Oper} : ∀ (l:List Oper) {e e':Env} {h h':ak},opsA P C ops l e h=some (e',h')→cz h h'
 | [],e,e',h,h',he=>by simp only [opsA,Option.some.injEq,Prod.mk.injEq] at he;obtain ⟨_,rfl⟩:=he;exact cz.refl _
 |o::l,e,e',h,h',he=>by
  simp only [opsA] at he
  split at he
  ·rename_i e1 h1 hs
   unfold stepA at hs
   split at hs
   ·split at hs
    ·rename_i v hv hop;cases hs;exact (opA_grow hC hop).trans (opsA_grow hC l he)
    ·cases hs
   ·cases hs;exact opsA_grow hC l he
  ·cases he
theorem regionA_grow (hC:bH P C) {ops:Array Oper} {d:Bool} {e e':Env} {h h':ak} (he:cR P C ops d e h=some (e',h')):cz h h':=by
 unfold cR at he
 split at he
 ·split at he
  ·split at he
   ·rename_i tr e1 h1 htr
    split at he
    ·simp only [Option.some.injEq,Prod.mk.injEq] at he
     obtain ⟨rfl,rfl⟩:=he
     obtain ⟨E,H,V,R,e0,h0,en,hn,T,_⟩:=trace_tra htr
     rw [←h0,←hn]
     exact T.grow hC (Nat.zero_le _) (Nat.le_refl _)
    ·cases he
   ·cases he
  ·cases he
 ·exact opsA_grow hC _ he
theorem iter_grow {step:Env→ak→Option (Ex×Env×ak)} (hs : ∀ e h x e' h',step e h=some (x,e',h')→cz h h') : ∀ (n:Nat) {e e':Env} {h h':ak} {x:Ex},iter step n e h=some (x,e',h')→cz h h'
 | 0,e,e',h,h',x,he=>by cases he
 |n+1,e,e',h,h',x,he=>by
  simp only [iter] at he
  split at he
  ·rename_i e1 h1 h2;exact (hs _ _ _ _ _ h2).trans (iter_grow hs n he)
  ·exact hs _ _ _ _ _ he
theorem cB (hC:bH P C) : ∀ (c:Code) {e e':Env} {h h':ak} {x:Ex},aL P C c e h=some (x,e',h')→cz h h'
 | .skip,e,e',h,h',x,he=>by simp only [aL,Option.some.injEq,Prod.mk.injEq] at he;obtain ⟨_,_,rfl⟩:=he;exact cz.refl _
 | .region _ ops d,e,e',h,h',x,he=>by
   simp only [aL] at he
   split at he
   ·rename_i e1 h1 h2;cases he;exact regionA_grow hC h2
   ·cases he
 | .seq a b,e,e',h,h',x,he=>by
   simp only [aL] at he
   split at he
   ·rename_i e1 h1 h2;exact (cB hC a h2).trans (cB hC b he)
   ·exact cB hC a he
 | .cond c a b,e,e',h,h',x,he=>by
   simp only [aL] at he
   split at he
   ·exact cB hC a he
   ·exact cB hC b he
   ·cases he
 | .block i b,e,e',h,h',x,he=>by
   simp only [aL] at he
   split at he
   ·rename_i j e1 h1 h2
    simp only [Option.some.injEq,Prod.mk.injEq] at he
    obtain ⟨_,_,rfl⟩:=he
    exact cB hC b h2
   ·exact cB hC b he
 | .loop b,e,e',h,h',x,he=>by
   simp only [aL] at he
   exact iter_grow (fun _ _ _ _ _ h=>cB hC b h) _ he
 | .exit _,e,e',h,h',x,he=>by simp only [aL,Option.some.injEq,Prod.mk.injEq] at he;obtain ⟨_,_,rfl⟩:=he;exact cz.refl _
 | .scope b,e,e',h,h',x,he=>by simp only [aL] at he;exact cB hC b he
 | .label _,e,e',h,h',x,he=>by simp only [aL,Option.some.injEq,Prod.mk.injEq] at he;obtain ⟨_,_,rfl⟩:=he;exact cz.refl _
 | .ret,e,e',h,h',x,he=>by simp only [aL,Option.some.injEq,Prod.mk.injEq] at he;obtain ⟨_,_,rfl⟩:=he;exact cz.refl _
 | .goto _,e,e',h,h',x,he=>by cases he
 | .rangeFunc ..,e,e',h,h',x,he=>by cases he
 | .refuse _,e,e',h,h',x,he=>by cases he
theorem opsA_bd (hC:bH P C) {ops:Array Oper} : ∀ (l:List Oper) {e e':Env} {h h':ak},l.all (operOk P)=true→P.globals.size≤h.n0→dy h.next e=true→bc h→opsA P C ops l e h=some (e',h')→dy h'.next e'=true∧bc h'
 | [],e,e',h,h',_,_,he,hh,h1=>by simp only [opsA,Option.some.injEq,Prod.mk.injEq] at h1;obtain ⟨rfl,rfl⟩:=h1;exact ⟨he,hh⟩
 |o::l,e,e',h,h',hok,hg,he,hh,h1=>by
  simp only [List.all_cons,Bool.and_eq_true] at hok
  simp only [opsA] at h1
  split at h1
  ·rename_i e1 h2 hs
   unfold stepA at hs
   split at hs
   ·split at hs
    ·rename_i v hv hop
     cases hs
     have hgr:=opA_grow hC hop
     obtain ⟨g1,g2⟩:=opA_bd hC hh (fun x hm=>bd_ev hg he (List.all_eq_true.1 hok.1 x hm)) hop
     exact opsA_bd hC l hok.2 (by rw [hgr.2.1];exact hg) (bd_putD (dm hgr.1 he) g1) g2 h1
    ·cases hs
   ·cases hs;exact opsA_bd hC l hok.2 hg (bd_putD he rfl) hh h1
  ·cases h1
theorem regionA_bd (hC:bH P C) {ops:Array Oper} {d:Bool} {e e':Env} {h h':ak} (hok:ops.toList.all (operOk P)=true) (hg:P.globals.size≤h.n0) (hbe:dy h.next e=true) (hbh:bc h)
  (he:cR P C ops d e h=some (e',h')):dy h'.next e'=true∧bc h':=by
 unfold cR at he
 split at he
 ·split at he
  ·split at he
   ·rename_i tr e1 h1 htr
    split at he
    ·simp only [Option.some.injEq,Prod.mk.injEq] at he
     obtain ⟨rfl,rfl⟩:=he
     obtain ⟨E,H,V,R,e0,h0,en,hn,T,_⟩:=trace_tra htr
     rw [←en,←hn]
     exact T.bd hC (by rw [h0];exact hg) (fun p x hx=>List.all_eq_true.1 hok x.2 (by rw [Array.mem_toList_iff];exact Array.mem_of_getElem? (mem_late.1 (List.mem_of_getElem? hx)))) (by rw [h0,e0];exact hbe) (by rw [h0];exact hbh) _ (Nat.le_refl _)
    ·cases he
   ·cases he
  ·cases he
 ·exact opsA_bd hC _ hok hg hbe hbh he
theorem iter_bd (hC:bH P C) {b:Code} (hb : ∀ e h x e' h',P.globals.size≤h.n0→dy h.next e=true→bc h→aL P C b e h=some (x,e',h')→dy h'.next e'=true∧bc h') :
  ∀ (n:Nat) {e e':Env} {h h':ak} {x:Ex},P.globals.size≤h.n0→dy h.next e=true→bc h→iter (aL P C b) n e h=some (x,e',h')→dy h'.next e'=true∧bc h'
 | 0,e,e',h,h',x,_,_,_,he=>by cases he
 |n+1,e,e',h,h',x,hg,hbe,hbh,he=>by
  simp only [iter] at he
  split at he
  ·rename_i e1 h1 h2
   obtain ⟨g1,g2⟩:=hb _ _ _ _ _ hg hbe hbh h2
   exact iter_bd hC hb n (by rw [(cB hC b h2).2.1];exact hg) g1 g2 he
  ·exact hb _ _ _ _ _ hg hbe hbh he
theorem dB (hC:bH P C) : ∀ (c:Code) {e e':Env} {h h':ak} {x:Ex},cL P c=true→P.globals.size≤h.n0→dy h.next e=true→bc h→aL P C c e h=some (x,e',h')→dy h'.next e'=true∧bc h'
 | .skip,e,e',h,h',x,_,_,hbe,hbh,he=>by simp only [aL,Option.some.injEq,Prod.mk.injEq] at he;obtain ⟨_,rfl,rfl⟩:=he;exact ⟨hbe,hbh⟩
 | .region _ ops d,e,e',h,h',x,hok,hg,hbe,hbh,he=>by
   simp only [cL] at hok
   simp only [aL] at he
   split at he
   ·rename_i e1 h1 h2;cases he;exact regionA_bd hC hok hg hbe hbh h2
   ·cases he
 | .seq a b,e,e',h,h',x,hok,hg,hbe,hbh,he=>by
   simp only [cL,Bool.and_eq_true] at hok
   simp only [aL] at he
   split at he
   ·rename_i e1 h1 h2
    obtain ⟨g1,g2⟩:=dB hC a hok.1 hg hbe hbh h2
    exact dB hC b hok.2 (by rw [(cB hC a h2).2.1];exact hg) g1 g2 he
   ·exact dB hC a hok.1 hg hbe hbh he
 | .cond c a b,e,e',h,h',x,hok,hg,hbe,hbh,he=>by
   simp only [cL,Bool.and_eq_true] at hok
   simp only [aL] at he
   split at he
   ·exact dB hC a hok.1.2 hg hbe hbh he
   ·exact dB hC b hok.2 hg hbe hbh he
   ·cases he
 | .block i b,e,e',h,h',x,hok,hg,hbe,hbh,he=>by
   simp only [cL] at hok
   simp only [aL] at he
   split at he
   ·rename_i j e1 h1 h2
    simp only [Option.some.injEq,Prod.mk.injEq] at he
    obtain ⟨_,rfl,rfl⟩:=he
    exact dB hC b hok hg hbe hbh h2
   ·exact dB hC b hok hg hbe hbh he
 | .loop b,e,e',h,h',x,hok,hg,hbe,hbh,he=>by
   simp only [cL] at hok
   simp only [aL] at he
   exact iter_bd hC (fun _ _ _ _ _ h1 h2 h3 h4=>dB hC b hok h1 h2 h3 h4) _ hg hbe hbh he
 | .exit _,e,e',h,h',x,_,_,hbe,hbh,he=>by simp only [aL,Option.some.injEq,Prod.mk.injEq] at he;obtain ⟨_,rfl,rfl⟩:=he;exact ⟨hbe,hbh⟩
 | .scope b,e,e',h,h',x,hok,hg,hbe,hbh,he=>by simp only [cL] at hok;simp only [aL] at he;exact dB hC b hok hg hbe hbh he
 | .label _,e,e',h,h',x,_,_,hbe,hbh,he=>by simp only [aL,Option.some.injEq,Prod.mk.injEq] at he;obtain ⟨_,rfl,rfl⟩:=he;exact ⟨hbe,hbh⟩
 | .ret,e,e',h,h',x,_,_,hbe,hbh,he=>by simp only [aL,Option.some.injEq,Prod.mk.injEq] at he;obtain ⟨_,rfl,rfl⟩:=he;exact ⟨hbe,hbh⟩
 | .goto _,e,e',h,h',x,_,_,_,_,he=>by cases he
 | .rangeFunc ..,e,e',h,h',x,_,_,_,_,he=>by cases he
 | .refuse _,e,e',h,h',x,_,_,_,_,he=>by cases he
def CodeGood (P:Program) (C:av) (c:Code):Prop:=
 ∀ (e e':Env) (h h':ak) (x:Ex) (μ:Mu) (a:Act) (w:World) (Q:Exit→Act→World→Prop),aL P C c e h=some (x,e',h')→P.globals.size≤h.n0→dy h.next e=true→bc h→de μ h w→ft μ h h'→ERel μ e a →
   (∀ a' w',Behind μ h w e' h' a' w'→Q (exOf x) a' w')→c.wp P Q a w
theorem Behind.trans {μ μ1:Mu} {h h1 h2:ak} {w w1 w2:World} {e2:Env} {a2:Act} (st:Step μ h w μ1 h1 w1) (b:Behind μ1 h1 w1 e2 h2 a2 w2):Behind μ h w e2 h2 a2 w2:=by
 obtain ⟨μ2,hS,hSt,hr⟩:=b
 exact ⟨μ2,hS,st.trans hSt,hr⟩
theorem iter_good (hC:bH P C) {b:Code} (hb:CodeGood P C b)
  (hbd : ∀ e h x e' h',P.globals.size≤h.n0→dy h.next e=true→bc h→aL P C b e h=some (x,e',h')→dy h'.next e'=true∧bc h') : ∀ (n:Nat) {e e':Env} {h h':ak} {x:Ex} {μ:Mu} {a:Act} {w:World} {Q:Exit→Act→World→Prop},iter (aL P C b) n e h=some (x,e',h') →
  P.globals.size≤h.n0→dy h.next e=true→bc h→de μ h w→ft μ h h'→ERel μ e a→(∀ a' w',Behind μ h w e' h' a' w'→Q (exOf x) a' w')→Code.rounds P b Q n a w
 | 0,_,_,_,_,_,_,_,_,_,he,_,_,_,_,_,_,_=>by cases he
 |n+1,e,e',h,h',x,μ,a,w,Q,he,hg,hbe,hbh,S,hf,r,hQ=>by
  rw [rounds_succ]
  simp only [iter] at he
  split at he
  ·rename_i e1 h1 h2
   have hgr:=cB hC b h2
   have hgr2:=iter_grow (fun _ _ _ _ _ h=>cB hC b h) _ he
   refine hb _ _ _ _ _ _ _ _ _ h2 hg hbe hbh S (hf.first hgr2.1) r ?_
   rintro a1 w1 ⟨μ1,hS,hSt,hr⟩
   exact iter_good hC hb hbd n he (by rw [hgr.2.1];exact hg) (hbd _ _ _ _ _ hg hbe hbh h2).1 (hbd _ _ _ _ _ hg hbe hbh h2).2 hS (hf.second hSt) hr (fun a' w' hb'=>hQ a' w' (hb'.trans hSt))
  ·rename_i hne
   refine hb _ _ _ _ _ _ _ _ _ he hg hbe hbh S hf r ?_
   intro a1 w1 hb1
   have hq:=hQ a1 w1 hb1
   cases x with
   |normal=>exact absurd he (hne _ _)
   |ret=>exact hq
   |exit i=>exact hq
theorem cY (hC:bH P C) (hm:P.follows .mixedOrders=true) : ∀ (c:Code),cL P c=true→CodeGood P C c
 | .skip,_=>by
   intro e e' h h' x μ a w Q he hg hbe hbh S hf r hQ
   simp only [aL,Option.some.injEq,Prod.mk.injEq] at he
   obtain ⟨rfl,rfl,rfl⟩:=he
   exact wp_skip (hQ a w ⟨μ,S,.cN,r⟩)
 | .region id ops d,hok=>by
   intro e e' h h' x μ a w Q he hg hbe hbh S hf r hQ
   simp only [cL] at hok
   simp only [aL] at he
   split at he
   ·rename_i e1 h1 h2
    cases he
    cases d with
    |true=>exact region_draw_sound hC hm hok h2 hg hbe hbh S hf r hQ
    |false=>exact region_seq_sound hC hok (by simpa [cR] using h2) hg hbe hbh S hf r hQ
   ·cases he
 | .seq b c,hok=>by
   intro e e' h h' x μ a w Q he hg hbe hbh S hf r hQ
   simp only [cL,Bool.and_eq_true] at hok
   simp only [aL] at he
   refine wp_seq ?_
   split at he
   ·rename_i e1 h1 h2
    have hgr:=cB hC b h2
    have hgr2:=cB hC c he
    refine cY hC hm b hok.1 _ _ _ _ _ _ _ _ _ h2 hg hbe hbh S (hf.first hgr2.1) r ?_
    rintro a1 w1 ⟨μ1,hS,hSt,hr⟩
    exact cY hC hm c hok.2 _ _ _ _ _ _ _ _ _ he (by rw [hgr.2.1];exact hg) (dB hC b hok.1 hg hbe hbh h2).1 (dB hC b hok.1 hg hbe hbh h2).2 hS (hf.second hSt) hr (fun a' w' hb'=>hQ a' w' (hb'.trans hSt))
   ·rename_i hne
    refine cY hC hm b hok.1 _ _ _ _ _ _ _ _ _ he hg hbe hbh S hf r ?_
    intro a1 w1 hb1
    have hq:=hQ a1 w1 hb1
    cases x with
    |normal=>exact absurd he (hne _ _)
    |ret=>exact hq
    |exit i=>exact hq
 | .cond c x y,hok=>by
   intro e e' h h' ex μ a w Q he hg hbe hbh S hf r hQ
   simp only [cL,Bool.and_eq_true] at hok
   simp only [aL] at he
   have hv:=ev_rel S hg r hok.1.1
   split at he
   ·rename_i h1
    rw [h1] at hv
    exact wp_cond_true hv.bool (cY hC hm x hok.1.2 _ _ _ _ _ _ _ _ _ he hg hbe hbh S hf r hQ)
   ·rename_i h1
    rw [h1] at hv
    exact wp_cond_false hv.bool (cY hC hm y hok.2 _ _ _ _ _ _ _ _ _ he hg hbe hbh S hf r hQ)
   ·cases he
 | .block id b,hok=>by
   intro e e' h h' x μ a w Q he hg hbe hbh S hf r hQ
   simp only [cL] at hok
   simp only [aL] at he
   refine wp_block ?_
   split at he
   ·rename_i j e1 h1 h2
    simp only [Option.some.injEq,Prod.mk.injEq] at he
    obtain ⟨rfl,rfl,rfl⟩:=he
    refine cY hC hm b hok _ _ _ _ _ _ _ _ _ h2 hg hbe hbh S hf r ?_
    intro a' w' hb'
    have hq:=hQ a' w' hb'
    simp only [exOf,Exit.inBlock]
    by_cases hj:j=id
    ·rw [if_pos hj] at hq ⊢;exact hq
    ·rw [if_neg hj] at hq ⊢;exact hq
   ·rename_i hne
    refine cY hC hm b hok _ _ _ _ _ _ _ _ _ he hg hbe hbh S hf r ?_
    intro a' w' hb'
    have hq:=hQ a' w' hb'
    cases x with
    |normal=>exact hq
    |ret=>exact hq
    |exit i=>exact absurd he (hne _ _ _)
 | .loop b,hok=>by
   intro e e' h h' x μ a w Q he hg hbe hbh S hf r hQ
   simp only [cL] at hok
   simp only [aL] at he
   exact wp_loop_rounds _ (iter_good hC (cY hC hm b hok) (fun _ _ _ _ _ h1 h2 h3 h4=>dB hC b hok h1 h2 h3 h4) _ he hg hbe hbh S hf r hQ)
 | .exit i,_=>by
   intro e e' h h' x μ a w Q he hg hbe hbh S hf r hQ
   simp only [aL,Option.some.injEq,Prod.mk.injEq] at he
   obtain ⟨rfl,rfl,rfl⟩:=he
   exact wp_exit (hQ a w ⟨μ,S,.cN,r⟩)
 | .scope b,hok=>by
   intro e e' h h' x μ a w Q he hg hbe hbh S hf r hQ
   simp only [cL] at hok
   simp only [aL] at he
   refine wp_scope_straight (cY hC hm b hok _ _ _ _ _ _ _ _ _ he hg hbe hbh S hf r ?_)
   intro a' w' hb'
   have hq:=hQ a' w' hb'
   cases x<;>exact hq
 | .label _,_=>by
   intro e e' h h' x μ a w Q he hg hbe hbh S hf r hQ
   simp only [aL,Option.some.injEq,Prod.mk.injEq] at he
   obtain ⟨rfl,rfl,rfl⟩:=he
   exact wp_label (hQ a w ⟨μ,S,.cN,r⟩)
 | .ret,_=>by
   intro e e' h h' x μ a w Q he hg hbe hbh S hf r hQ
   simp only [aL,Option.some.injEq,Prod.mk.injEq] at he
   obtain ⟨rfl,rfl,rfl⟩:=he
   exact wp_ret (hQ a w ⟨μ,S,.cN,r⟩)
 | .goto _,hok=>by simp [cL] at hok
 | .rangeFunc ..,hok=>by simp [cL] at hok
 | .refuse _,hok=>by simp [cL] at hok
theorem resultsA_grow {rs:List ResultVar} {e:Env} {h h':ak} {v:Value} (he:ax P rs e h=some (v,h')):h'=h:=by
 unfold ax at he
 split at he
 ·simp only [Option.map_eq_some_iff,Prod.mk.injEq] at he;obtain ⟨_,_,_,rfl⟩:=he;rfl
 ·simp only [Option.map_eq_some_iff,Prod.mk.injEq] at he;obtain ⟨_,_,_,rfl⟩:=he;rfl
def resV (tmps:Array Value):ResultVar→Sem Value
 | .tmp t=>pure (tmps.getD t undef)
 | .cell b t=>do loadVar t (←asAddr (tmps.getD b undef))
theorem results_eq (fn:Func) (tmps:Array Value):results fn tmps=(do let vs ←fn.results.mapM (resV tmps);pure (if h:vs.size=1 then vs[0] else .tuple vs)):=rfl
theorem resultA_sound {μ:Mu} {h:ak} {w:World} {e:Env} {a:Act} (S:de μ h w) (r:ERel μ e a) {x:ResultVar} {v:Value} (hv:dK P x e h=some v) :
  ∃ v',(resV a.tmps x).run P w = .ok v' w∧aQ μ v v':=by
 cases x with
 |tmp t=>
  simp only [dK,Option.some.injEq] at hv
  subst hv
  refine ⟨_,rfl,?_⟩
  have:=r.1.getD t
  simpa using this
 |cell b t=>
  simp only [dK,Option.map_eq_some_iff] at hv
  obtain ⟨⟨v1,h1⟩,hl,rfl⟩:=hv
  have hr:aQ μ (e.getD b undef) (a.tmps.getD b undef):=by have:=r.1.getD b;simpa using this
  obtain ⟨_,r',hrun,hv'⟩:=ld_sound S hr hl
  refine ⟨r',?_,hv'⟩
  simp only [resV,Instr.loadAt,Sem.run_bind] at hrun ⊢
  cases hx:a.tmps.getD b undef with
  |pointer p=>
   rw [hx] at hrun
   cases p with
   |none=>simp [Instr.sureAddr] at hrun
   |some q=>simpa [Instr.sureAddr,asAddr] using hrun
  |_=>rw [hx] at hrun;simp [Instr.sureAddr] at hrun
theorem mapM_rel {μ:Mu} {h:ak} {w:World} {e:Env} {a:Act} (S:de μ h w) (r:ERel μ e a) : ∀ {rs:List ResultVar} {vs:List Value},rs.mapM (fun r=>dK P r e h)=some vs →
  ∃ vs',(rs.mapM (resV a.tmps)).run P w = .ok vs' w∧bp μ vs vs'
 | [],vs,hv=>by simp at hv;subst hv;exact ⟨[],by simp,bp.nil μ⟩
 |x::rs,vs,hv=>by
  rw [List.mapM_cons] at hv
  simp only [bind,Option.bind_eq_some_iff,pure,Option.some.injEq] at hv
  obtain ⟨v,hv1,vs1,hv2,rfl⟩:=hv
  obtain ⟨v',h1,h2⟩:=resultA_sound S r hv1
  obtain ⟨vs',h3,h4⟩:=mapM_rel S r hv2
  refine ⟨v'::vs',?_,bp.cons h2 h4⟩
  rw [List.mapM_cons,Sem.run_bind]
  rw [h1]
  simp only [Result.andThen_ok,Sem.run_bind]
  rw [h3]
  simp
theorem mapM_length {α β:Type} {f:α→Option β} : ∀ {l:List α} {r:List β},l.mapM f=some r→l.length=r.length
 | [],r,h=>by simp at h;subst h;rfl
 |x::l,r,h=>by
  rw [List.mapM_cons] at h
  simp only [bind,Option.bind_eq_some_iff,pure,Option.some.injEq] at h
  obtain ⟨a,_,r1,h2,rfl⟩:=h
  simp [mapM_length h2]
theorem resultsA_sound {μ:Mu} {h h':ak} {w:World} {e:Env} {a:Act} (S:de μ h w) (r:ERel μ e a) {fn:Func} {v:Value} (hv:ax P fn.results.toList e h=some (v,h')) :
  ∃ v',(results fn a.tmps).run P w = .ok v' w∧aQ μ v v':=by
 have main : ∀ {vs:List Value},fn.results.toList.mapM (fun r=>dK P r e h)=some vs → ∃ vs',(fn.results.mapM (resV a.tmps)).run P w = .ok vs'.toArray w∧bp μ vs vs':=by
  intro vs hvs
  obtain ⟨vs',h1,h2⟩:=mapM_rel S r hvs
  refine ⟨vs',?_,h2⟩
  rw [Array.mapM_eq_mapM_toList,Sem.run_map,h1]
  rfl
 unfold ax at hv
 split at hv
 ·rename_i x hx
  simp only [Option.map_eq_some_iff,Prod.mk.injEq] at hv
  obtain ⟨v1,hv1,rfl,rfl⟩:=hv
  obtain ⟨vs',h1,h2⟩:=main (vs := [v1]) (by rw [hx];simp [hv1])
  have hl:=h2.1
  match vs',hl with
  | [v'],_=>
    refine ⟨v',?_,h2.head⟩
    rw [results_eq,Sem.run_bind]
    rw [h1]
    simp
 ·rename_i hne
  simp only [Option.map_eq_some_iff,Prod.mk.injEq] at hv
  obtain ⟨vs,hvs,rfl,rfl⟩:=hv
  obtain ⟨vs',h1,h2⟩:=main hvs
  refine ⟨.tuple vs'.toArray,?_,.of_list_tuple h2⟩
  rw [results_eq,Sem.run_bind]
  rw [h1]
  simp only [Result.andThen_ok,Sem.run_pure]
  have hlen:vs'.length≠1:=by
   rw [←h2.1,←mapM_length hvs]
   intro h1'
   obtain ⟨x,hx⟩:=List.length_eq_one_iff.1 h1'
   exact hne x hx
  rw [dif_neg (by simpa using hlen)]
end code
end Go.Abs

