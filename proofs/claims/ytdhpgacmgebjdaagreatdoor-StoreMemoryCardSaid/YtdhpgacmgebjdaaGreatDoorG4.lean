/-
  A part of the proof, shortened by a program.
  Conditions: as each theorem states.
-/
import Derived.Test.YtdhpgacmgebjdaaGreatDoorG3
import Derived.LoopN
set_option linter.all false
namespace Go.Abs
noncomputable section
def bH (h h':ae):Prop:=h.next<=h'.next/\h'.n0=h.n0/\h'.old=h.old
def bH.refl (h:ae):bH h h:=⟨DG _,rfl,rfl⟩
def bH.trans {a b c:ae} (x:bH a b) (y:bH b c):bH a c:=⟨D9 x.1 y.1,y.2.1.trans x.2.1,y.2.2.trans x.2.2⟩
def bH.alloc (h:ae) (k:eh):bH h (h.alloc k):=⟨by simp,rfl,rfl⟩
def bH.kill_alloc (h:ae) (b:Nat) (k:eh):bH h ((h.kill b).alloc k):=⟨by simp,rfl,rfl⟩
def bH.allocO (h:ae) (o:fF):bH h (h.ba (.obj o)):=⟨by simp,rfl,rfl⟩
def bH.setO (h:ae) (b:Nat) (o:fF):bH h (h.setO b o):=⟨DG _,rfl,rfl⟩
def bH.pG {b off:Nat} {xs:List Vl} {h h':ae} (e:stL b off xs h=some h'):bH h h':=by
 unfold stL at e;split at e
 ·split at e
  ·cases e;exact ⟨DG _,rfl,rfl⟩
  ·cases e
 ·cases e
section ops
variable {P:Program} {C:ah} {h h':ae} {v:Vl}
def grow_append {size by_:Nat} {s x:Vl} (e:appendA size by_ s x h=some (v,h')):bH h h':=by
 unfold appendA at e
 repeat' split at e
 all_goals first
  | (cases e;done)
  | (simp only [DA,DF] at e;obtain ⟨_,rfl⟩:=e;first|exact bH.refl _|exact bH.alloc _ _|exact bH.kill_alloc _ _ _)
  | (simp only [DJ,DF] at e;obtain ⟨h1,hs,_,rfl⟩:=e;exact bH.pG hs)
def grow_copy {size:Nat} {s x:Vl} (e:js size s x h=some (v,h')):bH h h':=by
 unfold js at e;simp only at e
 repeat' split at e
 all_goals first
  | (cases e;done)
  | (simp only [DA,DF] at e;obtain ⟨_,rfl⟩:=e;exact bH.refl _)
  | (simp only [DJ,DF] at e;obtain ⟨h1,hs,_,rfl⟩:=e;exact bH.pG hs)
def grow_clear {size:Nat} {t:TypeId} {s:Vl} (e:clearA P t size s h=some (v,h')):bH h h':=by
 unfold clearA at e
 repeat' split at e
 all_goals first
  | (cases e;done)
  | (simp only [DA,DF] at e;obtain ⟨_,rfl⟩:=e;exact bH.refl _)
  | (simp only [DJ,DF] at e;obtain ⟨h1,hs,_,rfl⟩:=e;exact bH.pG hs)
def pY {t:TypeId} {m k x:Vl} (e:mapUpdateA P t m k x h=some (v,h')):bH h h':=by
 unfold mapUpdateA at e
 repeat' split at e
 all_goals first
  | (cases e;done)
  | (cases e;exact bH.setO _ _ _)
def zZ {t:TypeId} {m k:Vl} (e:iO P t m k h=some (v,h')):bH h h':=by
 unfold iO at e
 repeat' split at e
 all_goals first
  | (cases e;done)
  | (cases e;exact bH.setO _ _ _)
def vV {m s x:Vl} (e:entryStoreA m s x h=some (v,h')):bH h h':=by
 unfold entryStoreA at e
 repeat' split at e
 all_goals first
  | (cases e;done)
  | (cases e;exact bH.setO _ _ _)
def BL {r:Option Vl} {t:TypeId} (e:dX r P t h=some (v,h')):bH h h':=by
 unfold dX at e
 repeat' split at e
 all_goals first
  | (cases e;done)
  | (cases e;exact bH.allocO _ _)
def grow_range {t:TypeId} {x:Vl} (e:rangeA P t x h=some (v,h')):bH h h':=by
 unfold rangeA at e
 repeat' split at e
 all_goals first
  | (cases e;done)
  | (cases e;exact bH.allocO _ _)
def vI {t:TypeId} {x k:Vl} {ok:Bool} (e:lookupA P t x k ok h=some (v,h')):h'=h:=by
 unfold lookupA at e
 repeat' split at e
 all_goals first
  | (cases e;done)
  | (simp only [DA,DF] at e;exact e.2.symm)
def grow_nexts {it:Vl} {l:List (Vl×ae)} (e:nextsA it h=some l) : ∀ p∈l,bH h p.2:=by
 unfold nextsA at e;split at e
 ·split at e
  ·cases e;intro p hp;rw [FB.1 hp];exact bH.refl _
  ·split at e
   ·simp only [DJ] at e;obtain ⟨cs,hc,rfl⟩:=e;intro p hp;obtain ⟨c,hcm,rfl⟩:=EZ.1 hp;cases c with
    |none=>exact bH.refl _
    |some c=>exact bH.setO _ _ _
   ·cases e
  ·cases e
 ·cases e
def grow_next {it:Vl} {str:Bool} (e:nextA it str h=some (v,h')):bH h h':=by
 unfold nextA at e;split at e
 ·cases e
 ·split at e
  ·rename_i r hr;cases e;exact grow_nexts hr (v,h') (by simp)
  ·cases e
def grow_delete {t:TypeId} {m k:Vl} (e:deleteA P t m k h=some (v,h')):bH h h':=by
 unfold deleteA at e
 repeat' split at e
 all_goals first
  | (cases e;done)
  | (cases e;first|exact bH.refl _|exact bH.setO _ _ _)
def Ao {x:Vl} (e:jx x h=some (v,h')):bH h h':=by
 unfold jx at e
 repeat' split at e
 all_goals first
  | (cases e;done)
  | (cases e;first|exact bH.refl _|exact bH.setO _ _ _)
def Bt {b:Builtin} {ts:List TypeId} {args:List Vl} (e:builtinA P b ts args h=some (v,h')):bH h h':=by
 unfold builtinA at e;split at e
 ·repeat' split at e
  all_goals first
   | (cases e;done)
   |exact grow_append e
 ·split at e
  ·simp only [DU] at e;obtain ⟨n,_,e⟩:=e;exact grow_copy e
  ·cases e
 ·split at e
  ·simp only [DU] at e;obtain ⟨n,_,e⟩:=e;exact grow_clear e
  ·split at e
   ·exact Ao e
   ·cases e
 ·split at e
  ·cases e;exact bH.refl _
  ·split at e
   ·simp only [DJ,DF] at e;obtain ⟨_,_,_,rfl⟩:=e;exact bH.refl _
   ·cases e
 ·exact grow_delete e
 ·simp only [DJ,DF] at e;obtain ⟨_,_,_,rfl⟩:=e;exact bH.refl _
 ·simp only [DJ,DF] at e;obtain ⟨_,_,_,rfl⟩:=e;exact bH.refl _
 ·cases e
def kW (hC:bk P C) {o:Oper} {ρ:Operand->Vl} (e:opA P C o ρ h=some (v,h')):bH h h':=by
 have pure_of : ∀ {r:Option Vl},r.map (fun v=>(v,h))=some (v,h')->bH h h':=by intro r e;simp only [DJ,DF] at e;obtain ⟨x,_,_,rfl⟩:=e;exact bH.refl _
 unfold opA at e;simp only at e;split at e
 ·cases e;exact bH.refl _
 ·cases e;exact bH.refl _
 ·split at e
  ·cases e;exact bH.refl _
  ·cases e
 ·unfold zero at e
  repeat' split at e
  all_goals first
   | (cases e;done)
   | (simp only [newRow,DA,DF] at e;obtain ⟨_,rfl⟩:=e;exact bH.alloc _ _)
 ·unfold box at e;split at e
  ·simp only [newRow,DA,DF] at e;obtain ⟨_,rfl⟩:=e;exact bH.alloc _ _
  ·cases e
 ·exact pure_of e
 ·unfold buildSliceA at e
  repeat' split at e
  all_goals first
   | (cases e;done)
   | (simp only [DA,DF] at e;obtain ⟨_,rfl⟩:=e;exact bH.alloc _ _)
 ·unfold ld at e;split at e
  ·unfold bQ at e
   repeat' split at e
   all_goals first
    | (cases e;done)
    | (simp only [DA,DF] at e;obtain ⟨_,rfl⟩:=e;exact bH.refl _)
  ·unfold ld1 at e
   repeat' split at e
   all_goals first
    | (cases e;done)
    | (simp only [DA,DF] at e;obtain ⟨_,rfl⟩:=e;exact bH.refl _)
  ·cases e
 ·unfold st at e;split at e
  ·unfold bI at e;split at e
   ·split at e
    ·simp only [DJ,DF] at e;obtain ⟨h1,hs,_,rfl⟩:=e;exact bH.pG hs
    ·cases e
   ·cases e
  ·cases e
 ·exact pure_of e
 ·exact pure_of e
 ·exact pure_of e
 ·unfold convA at e;split at e
  ·cases e;exact bH.refl _
  ·cases e;exact bH.refl _
  ·repeat' split at e
   all_goals first
    | (cases e;done)
    | (simp only [DA,DF] at e;obtain ⟨_,rfl⟩:=e;exact bH.alloc _ _)
  ·repeat' split at e
   all_goals first
    | (cases e;done)
    | (cases e;exact bH.refl _)
  ·repeat' split at e
   all_goals first
    | (cases e;done)
    | (cases e;exact bH.refl _)
  ·cases e
 ·unfold makeA at e
  repeat' split at e
  all_goals first
   | (cases e;done)
   | (simp only [DA,DF] at e;obtain ⟨_,rfl⟩:=e;exact bH.alloc _ _)
 ·exact pure_of e
 ·exact pure_of e
 ·exact pure_of e
 ·exact pure_of e
 ·exact pure_of e
 ·exact pure_of e
 ·split at e
  ·cases e
  ·cases e;exact bH.refl _
 ·exact pure_of e
 ·exact pure_of e
 ·exact BL e
 ·rw [vI e];exact bH.refl _
 ·exact pY e
 ·exact pY e
 ·exact zZ e
 ·exact vV e
 ·exact grow_range e
 ·exact grow_next e
 ·rw [xM e];exact bH.refl _
 ·split at e
  ·exact Bt e
  ·unfold callA at e;split at e
   ·split at e
    ·exact hC.grow _ _ _ _ _ e
    ·cases e
   ·exact hC.grow _ _ _ _ _ e
   ·cases e
  ·cases e
 ·cases e
def BV (hC:bk P C) {o:Oper} {ρ:Operand->Vl} (hb:aE h) (hρ : ∀ x∈o.op.operands.toList,b9 h.next (ρ x)=true) (e:opA P C o ρ h=some (v,h')):b9 h'.next v=true/\aE h':=by
 have pure_of : ∀ {r:Option Vl},(∀ v,r=some v->b9 h.next v=true)->r.map (fun v=>(v,h))=some (v,h')->b9 h'.next v=true/\aE h':=by intro r hr e;simp only [DJ,DF] at e;obtain ⟨x,rfl,rfl,rfl⟩:=e;exact ⟨hr x rfl,hb⟩
 have hop : ∀ op,o.op=op->(∀ x∈op.operands.toList,b9 h.next (ρ x)=true):=fun op h=>h▸hρ;have hparts : ∀ {parts:Array (Nat×Operand)},(∀ x∈parts.toList.map (·.2),b9 h.next (ρ x)=true) -> ∀ p∈parts.toList.map (fun (i,x)=>(i,ρ x)),b9 h.next p.2=true:=by intro parts hp p hm;obtain ⟨q,hq,rfl⟩:=EZ.1 hm;exact hp q.2 (EZ.2 ⟨q,hq,rfl⟩)
 unfold opA at e;simp only at e;split at e
 ·rename_i x heq;cases e;exact ⟨hop _ heq x (by simp [Op.operands]),hb⟩
 ·rename_i x heq;cases e;exact ⟨hop _ heq x (by simp [Op.operands]),hb⟩
 ·rename_i c x y heq;split at e
  ·rename_i t _;cases e;refine ⟨?_,hb⟩;cases t
   ·exact hop _ heq y (by simp [Op.operands])
   ·exact hop _ heq x (by simp [Op.operands])
  ·cases e
 ·unfold zero at e;split at e
  ·split at e
   ·rename_i hf;simp only [newRow,DA,DF] at e;obtain ⟨rfl,rfl⟩:=e;exact ⟨by simp [b9,ptr],hb.alloc (dh hf)⟩
   ·cases e
  ·cases e
 ·rename_i t x heq;unfold box at e;split at e
  ·simp only [newRow,DA,DF] at e;obtain ⟨rfl,rfl⟩:=e;exact ⟨by simp [b9,ptr],hb.alloc (cy (HH _) (vm (hop _ heq x (by simp [Op.operands]))))⟩
  ·cases e
 ·rename_i t parts heq;exact pure_of (fun v hv=>bd_build (hparts fun x hx=>hop _ heq x (by simpa [Op.operands] using hx)) hv) e
 ·rename_i t len parts heq;exact zJ hb (hparts fun x hx=>hop _ heq x (by simpa [Op.operands] using hx)) e
 ·exact bd_ld hb e
 ·rename_i t x y heq;exact bd_st hb (hop _ heq y (by simp [Op.operands])) e
 ·rename_i x heq;exact pure_of (fun v hv=>bd_nil (hop _ heq x (by simp [Op.operands])) hv) e
 ·exact pure_of (fun v hv=>je (bin_flat hv)) e
 ·exact pure_of (fun v hv=>je (un_flat hv)) e
 ·rename_i s d x heq;exact bd_conv hb (hop _ heq x (by simp [Op.operands])) e
 ·exact bd_make hb e
 ·rename_i t x lo hi mx heq;exact pure_of (fun v hv=>bd_slice (hop _ heq x (by simp [Op.operands])) hv) e
 ·rename_i t x i heq;exact pure_of (fun v hv=>bd_fieldAt (hop _ heq x (by simp [Op.operands])) hv) e
 ·rename_i t x i heq;exact pure_of (fun v hv=>bd_field (hop _ heq x (by simp [Op.operands])) hv) e
 ·rename_i t x i heq;exact pure_of (fun v hv=>bd_indexAt (hop _ heq x (by simp [Op.operands])) hv) e
 ·rename_i t x i heq;exact pure_of (fun v hv=>bd_index (hop _ heq x (by simp [Op.operands])) hv) e
 ·rename_i x i heq;exact pure_of (fun v hv=>bd_extract (hop _ heq x (by simp [Op.operands])) hv) e
 ·rename_i f first captured heq
  have key : ∀ l:Array Operand,(∀ x∈l,b9 h.next (ρ x)=true)->cT h.next (l.map ρ).toList=true:=fun l hl=>by rw [eX];intro y hy;rw [IE] at hy;obtain ⟨x,hx,rfl⟩:=EZ.1 hy;exact hl x (GK.1 hx)
  split at e
  ·cases e
  rename_i hny;cases e;refine ⟨?_,hb⟩;show (bdF h.next f&&(cT h.next (first.map ρ).toList&&cT h.next (captured.map ρ).toList))=true;have hbf:bdF h.next f=true:=by
   cases f with
   |yield l=>exact absurd rfl (hny l)
   |_=>rfl
  rw [hbf,key first (fun x hx=>hop _ heq x (by simp only [Op.operands,GD,D8];exact .inl (GK.2 hx))),key captured (fun x hx=>hop _ heq x (by simp only [Op.operands,GD,D8];exact .inr (GK.2 hx)))];rfl
 ·rename_i t x heq;refine pure_of (fun v hv => ?_) e;unfold ifaceA at hv;split at hv
  ·cases hv
  ·cases hv;exact hop _ heq x (by simp [Op.operands])
  ·cases hv
 ·rename_i x xt t ok heq;refine pure_of (fun v hv => ?_) e;unfold assertA at hv;split at hv
  ·cases hv
  ·split at hv
   ·rename_i u y hx;have hb1:b9 h.next (.iface u y)=true:=by rw [<-hx];exact hop _ heq x (by simp [Op.operands])
    have hb1:b9 h.next y=true:=by simpa [b9] using hb1
    split at hv
    ·cases ok with
     |false=>cases hv;exact hb1
     |true=>cases hv;simp [b9,cT,hb1]
    ·cases hv
   ·cases hv
  ·cases hv
 ·exact bd_makeMap hb e
 ·exact bd_lookup hb e
 ·rename_i t m k x heq;exact tu hb (hop _ heq x (by simp [Op.operands])) e
 ·rename_i t m k x heq;exact tu hb (hop _ heq x (by simp [Op.operands])) e
 ·exact bd_mapEntry hb e
 ·rename_i t m k x heq;exact Af hb (hop _ heq x (by simp [Op.operands])) e
 ·exact bd_range hb e
 ·exact bd_next hb e
 ·exact bd_entry hb e
 ·rename_i c heq;have hargs:cT h.next (c.args.toList.map ρ)=true:=by rw [eX];intro y hy;obtain ⟨x,hx,rfl⟩:=EZ.1 hy;exact hop _ heq x (by simp only [Op.operands,Call.operands,GD,D8];exact .inr hx)
  split at e
  ·exact bd_builtin hb hargs e
  ·rename_i f hcv;unfold callA at e;split at e
   ·rename_i i first captured hfe
    have hff:=hop _ heq f (by simp [Op.operands,Call.operands,hcv]);rw [hfe] at hff;obtain ⟨lf⟩:=first
    obtain ⟨lc⟩:=captured;simp only [b9,DD] at hff;split at e
    ·exact hC.bd _ _ _ _ _ e (cL (cL hff.2.1 hargs) hff.2.2) hb
    ·cases e
   ·rename_i l first captured hfe
    have hff:=hop _ heq f (by simp [Op.operands,Call.operands,hcv]);rw [hfe] at hff;obtain ⟨lf⟩:=first
    obtain ⟨lc⟩:=captured;simp only [b9,DD] at hff;exact hC.bd _ _ _ _ _ e (cL hff.2.1 hargs) hb
   ·cases e
  ·cases e
 ·cases e
def re {n:Nat} {e:aO} {d:Option Tmp} {v:Vl} (he:cT n e=true) (hv:b9 n v=true):cT n (putD e d v)=true:=by
 cases d with
 |none=>exact he
 |some t=>exact bdL_set he hv
def AJ {e:aO} {x:Operand} {h:ae} (hg:P.globals.size<=h.n0) (he:cT h.next e=true) (hx:yr P x=true):b9 h.next (ev e x)=true:=by
 cases x with
 |tmp t=>exact bdL_getD he
 |const v=>exact je hx
 |global g=>
  have hlt:g<P.globals.size:=by simpa [yr] using hx
  have:=h.n0_le_next;simp only [ev,ptr,b9,DR];omega
 |func f=>rfl
def jU (D:List Deferred) (μ:Mu) (e:aO) (a:Act):Prop:=aT μ e a.tmps.toList/\a.defers=D
def jU.mono {D:List Deferred} {μ μ':Mu} {e:aO} {a:Act} (r:jU D μ e a) (hm : ∀ b L,μ b=some L->μ' b=some L):jU D μ' e a:=⟨r.1.mono hm,r.2⟩
def jU.put {D:List Deferred} {μ:Mu} {e:aO} {a:Act} (r:jU D μ e a) (d:Option Tmp) {x y:Vl} (hv:aF μ x y):jU D μ (putD e d x) (a.put d y):=by
 cases d with
 |none=>exact r
 |some t=>
  refine ⟨?_,r.2⟩;simp only [putD,Act.put];rw [H6];exact r.1.set t hv
def CO {D:List Deferred} {μ:Mu} {h:ae} {w:World} {e:aO} {a:Act} (S:cD μ h w) (hg:P.globals.size<=h.n0) (r:jU D μ e a) {x:Operand} (hx:yr P x=true):aF μ (ev e x) (a.eval x):=by
 cases x with
 |tmp t=>
  have:=r.1.getD t;simpa [ev,Act.eval] using this
 |const v=>exact .flat hx
 |global g=>
  have hlt:g<P.globals.size:=by simpa [yr] using hx
  obtain ⟨L,hL,hB,hO⟩:=S.low g (by omega);have:=aF.ptr (off:=0) hL;rw [hB,hO] at this;exact this
 |func f=>exact .flat rfl
def yield_rel {D:List Deferred} {μ:Mu} {ops:Array Oper} {e:aO} {a:Act} (r:jU D μ e a) (j:Nat):iW ops e j=yielded ops a.tmps j:=by
 unfold iW yielded;cases hd:(ops[j]?).bind (·.dst) with
 |none=>rfl
 |some t=>
  simp only [Option.bind_some];cases hx:e[t]? with
  |none=>
   have:a.tmps[t]? = none:=by have h1:=r.1.1;have h2:a.tmps.toList.length=a.tmps.size:=Array.length_toList;rw [ID] at hx;rw [Array.getElem?_eq_none_iff];omega
   rw [this]
  |some x=>
   obtain ⟨y,hy,hv⟩:=r.1.get hx;have hy':a.tmps[t]? = some y:=by simpa using hy
   rw [hy'];cases hv with
   |flat h=>rfl
   |_=>rfl
def want_rel {D:List Deferred} {μ:Mu} {ops:Array Oper} {o:Oper} {e:aO} {a:Act} (r:jU D μ e a):ki ops o e=Region.wanted o (yielded ops a.tmps):=by
 unfold ki Region.wanted;cases o.guard with
 |none=>rfl
 |some p=>obtain ⟨j,b⟩:=p;simp only;rw [yield_rel r j]
def rR (D:List Deferred) (μ:Mu) (h:ae) (w:World) (e':aO) (h':ae) (a':Act) (w':World):Prop:=
 ∃ μ',cD μ' h' w'/\ct μ h w μ' h' w'/\jU D μ' e' a'
def rT (hC:bk P C) {D:List Deferred} {ro:Option Nat} {n:Nat} {ops:Array Oper} {Q:Exit->Act->World->Prop} : ∀ (l:List Oper) (k:Nat) {μ:Mu} {e e':aO} {h h':ae} {a:Act} {w:World},ops.toList.drop k=l->l.all (pX P)=true ->
  opsA P C ops l e h=some (e',h')->P.globals.size<=h.n0->cT h.next e=true->aE h->cD μ h w->fi μ h h'->jU D μ e a->(∀ a' w',rR D μ h w e' h' a' w'->Q .normal a' w')->wpOpsIn (Fr ro) n P ops Q (List.range' k l.length) a w
 | [],k,μ,e,e',h,h',a,w,_,_,he,_,_,_,S,_,r,hQ=>by simp only [opsA,DA,DF] at he;obtain ⟨rfl,rfl⟩:=he;simp only [List.length_nil,List.range'_zero,wpOpsIn];exact hQ a w ⟨μ,S,.cq,r⟩
 |o::l,k,μ,e,e',h,h',a,w,hd,hok,he,hg,hbe,hbh,S,hf,r,hQ=>by
  simp only [opsA] at he;simp only [List.all_cons,DD] at hok;have hko:ops[k]? = some o:=by
   have:ops.toList[k]? = some o:=by have:=FP (fun l=>l[0]?) hd;simpa using this
   simpa using this
  have hd':ops.toList.drop (k+1)=l:=by have:=FP (List.drop 1) hd;rw [GG] at this;simpa [Nat.add_comm] using this
  split at he
  ·rename_i e1 h1 hs;unfold stepA at hs;simp only [List.length_cons,List.range'_succ,wpOpsIn,hko,want_rel (ops:=ops) r] at hs |-;by_cases hw:Region.wanted o (yielded ops a.tmps)=true
   ·rw [DH hw] at hs |-;split at hs
    ·rename_i v h1' hop;simp only [DA,DF] at hs;obtain ⟨rfl,rfl⟩:=hs;have hgr:=kW hC hop;have hgr2 : ∀ (l:List Oper) {e e':aO} {h h':ae},opsA P C ops l e h=some (e',h')->bH h h':=by
      intro l;induction l with
      |nil=>intro e e' h h' he;simp only [opsA,DA,DF] at he;obtain ⟨_,rfl⟩:=he;exact bH.refl _
      |cons o l ih=>
       intro e e' h h' he;simp only [opsA] at he;split at he
       ·rename_i e1 h1 hs;unfold stepA at hs;split at hs
        ·split at hs
         ·rename_i v hv hop;cases hs;exact (kW hC hop).trans (ih he)
         ·cases hs
        ·cases hs;exact ih he
       ·cases he
     have hgr3:=hgr2 _ he;have hbo : ∀ x∈o.op.operands.toList,b9 h.next (ev e x)=true:=fun x hx=>AJ hg hbe (DQ.1 hok.1 x hx);obtain ⟨hbv,hbh1⟩:=BV hC hbh hbo hop;refine AS hC (ρ:=ev e) S (hf.first hgr3.1) (fun x hx=>CO S hg r (DQ.1 hok.1 x hx)) hg (fun _ _ _ _=>⟨hbo,hbh⟩) hop _ _ _ _ ?_;intro μ1 v' w1 hS hSt hv;refine rT hC l (k+1) hd' hok.2 he (by rw [hgr.2.1];exact hg) (re (cy hgr.1 hbe) hbv) hbh1 hS (hf.nO hSt) ((r.mono (hSt.mono (hf.first hgr3.1))).put o.dst hv) ?_;rintro a' w' ⟨μ2,hS2,hSt2,r2⟩;exact hQ a' w' ⟨μ2,hS2,hSt.trans hSt2,r2⟩
    ·cases hs
   ·rw [DL hw] at hs |-;simp only [DA,DF] at hs;obtain ⟨rfl,rfl⟩:=hs;exact ⟨fun _ _=>trivial,rT hC l (k+1) hd' hok.2 he hg (re hbe rfl) hbh S hf (r.put o.dst ra) hQ⟩
  ·cases he
def uI (hC:bk P C) {D:List Deferred} {ro:Option Nat} {n:Nat} {id:Nat} {ops:Array Oper} {Q:Exit->Act->World->Prop} {μ:Mu} {e e':aO} {h h':ae} {a:Act} {w:World} (hok:ops.toList.all (pX P)=true)
  (he:opsA P C ops ops.toList e h=some (e',h')) (hg:P.globals.size<=h.n0) (hbe:cT h.next e=true) (hbh:aE h) (S:cD μ h w) (hf:fi μ h h') (r:jU D μ e a) (hQ : ∀ a' w',rR D μ h w e' h' a' w'->Q .normal a' w') :
  (Code.region id ops false).wpIn (Fr ro) n P Q a w:=by
 refine wpIn_region ?_;have:=rT hC (ro:=ro) (n:=n) (ops:=ops) (Q:=Q) ops.toList 0 rfl hok he hg hbe hbh S hf r hQ
 rwa [Array.length_toList,<-List.range_eq_range'] at this
end ops
def Sub (h G:ae):Prop:=h.n0=G.n0/\h.old=G.old /\ ∀ b k,h.n0<=b->h.getB b=some k->G.getB b=some k
def Sub.get {h G:ae} (s:Sub h G) {b:Nat} {k:eh} (hb:h.n0<=b) (hg:h.get b=some k):G.get b=some k:=G.get_of_getB (s.2.2 b _ hb (h.aJ hg))
def cD.sub {μ:Mu} {h G:ae} {w:World} (s:cD μ G w) (hs:Sub h G):cD μ h w:=by
 have hs':=hs;obtain ⟨h1,h2,h3⟩:=hs;refine ⟨?_,?_,?_,?_,?_,?_⟩
 ·rw [h1,h2];exact s.old
 ·intro b k hb hg;have:=s.new b k (h1▸hb) (hs'.get hb hg);rw [h1];exact this
 ·intro b o hb hg;have:=s.obj b o (h1▸hb) (h3 b _ hb hg);rw [h1];exact this
 ·intro b b' k k' L L' hb hb' hne hg hg';exact s.inj b b' k k' L L' (h1▸hb) (h1▸hb') hne (h3 _ _ hb hg) (h3 _ _ hb' hg')
 ·rw [h1];exact s.size
 ·rw [h1];exact s.low
def Ci.sub {μ:Mu} {h G:ae} {B:Nat} (o:Ci μ h B) (hs:Sub h G):Ci μ G B:=by obtain ⟨b,k,L,h1,h2,h3,h4⟩:=o;exact ⟨b,k,L,hs.1▸h1,hs.2.2 b k h1 h2,h3,h4⟩
structure Framed (G h h1 G':ae):Prop where
 n0:G'.n0=G.n0
 old:G'.old=G.old
 get : ∀ b k,G'.n0<=b->G'.getB b=some k->h1.getB b=some k\/(G.getB b=some k/\h.getB b=none/\(b<h.next\/h1.next<=b))
def cD.frame {μ μ1:Mu} {G h h1 G':ae} {w w1:World} (s:cD μ G w) (hs:Sub h G) (st:ct μ h w μ1 h1 w1) (s1:cD μ1 h1 w1) (hf:fi μ h h1) (fr:Framed G h h1 G'):cD μ1 G' w1:=by
 have hm:=st.mono hf;have hn0:h1.n0=G.n0:=st.n0.trans hs.1;have key : ∀ b k,G.n0<=b->G.getB b=some k->h.getB b=none->(b<h.next\/h1.next<=b) -> ∃ L,μ b=some L/\μ1 b=some L /\ ¬Ci μ h L.blk/\L.blk<w.heap.size/\w1.heap[L.blk]? = w.heap[L.blk]? := by
  intro b k hb hg hn hr;obtain ⟨L,ob,h2,h4,h8⟩:=s.place hb hg;have hno : ¬Ci μ h L.blk:=by rintro ⟨c,kc,Lc,c1,c2,c3,c4⟩;refine s.inj b c k kc L Lc hb (hs.1▸c1) ?_ hg (hs.2.2 c kc c1 c2) h2 c3 c4.symm;rintro rfl;rw [hn] at c2;cases c2
  have hlt:L.blk<w.heap.size:=(DT.1 h4).1;have hμ:μ1 b=some L:=by rw [st.ext b hr];exact h2
  exact ⟨L,h2,hμ,hno,hlt,st.same _ hlt hno⟩
 refine ⟨?_,?_,?_,?_,?_,?_⟩
 ·intro b cs hb hc;rw [fr.n0] at hb;rw [fr.old] at hc;exact s1.old b cs (hn0▸hb) (by rw [st.old,hs.2.1];exact hc)
 ·intro b k hb hg;rcases fr.get b _ hb (G'.aJ hg) with h2|⟨h2,h3,h4⟩
  ·have:=s1.new b k (by rw [hn0,<-fr.n0];exact hb) (h1.get_of_getB h2);rw [fr.n0,<-hn0];exact this
  ·obtain ⟨L,k1,k2,_,_,k5⟩:=key b _ (fr.n0▸hb) h2 h3 h4;obtain ⟨L',arr,T,f,g2,g3,g4,g5,g6,g7,g8,g9⟩:=s.new b k (fr.n0▸hb) (G.get_of_getB h2);rw [k1] at g2;cases g2;rw [fr.n0];exact ⟨L,arr,T,f,k2,g3,by rw [k5];exact g4,g5,g6,g7,g8,g9.mono hm⟩
 ·intro b o hb hg;rcases fr.get b _ hb hg with h2|⟨h2,h3,h4⟩
  ·have:=s1.obj b o (by rw [hn0,<-fr.n0];exact hb) h2;rw [fr.n0,<-hn0];exact this
  ·obtain ⟨L,k1,k2,_,_,k5⟩:=key b _ (fr.n0▸hb) h2 h3 h4;obtain ⟨L',ob,g1,g2,g3,g4⟩:=s.obj b o (fr.n0▸hb) h2;rw [k1] at g1;cases g1;rw [fr.n0];exact ⟨L,ob,k2,by rw [k5];exact g2,g3.mono hm,g4⟩
 ·intro b b' k k' L L' hb hb' hne hg hg' hL hL';have hb0:G.n0<=b:=fr.n0▸hb;have hb0':G.n0<=b':=fr.n0▸hb';have cross : ∀ {b b':Nat} {k k':BB} {L L':Loc},G.n0<=b->G.n0<=b'->h1.getB b=some k->μ1 b=some L->G.getB b'=some k'->h.getB b'=none->(b'<h.next\/h1.next<=b')->μ1 b'=some L'->L.blk≠L'.blk:=by
   intro b b' k k' L L' c0 c0' c1 c2 c3 c4 c5 c6 heq;obtain ⟨L2,g1,g2,g3,g4,_⟩:=key b' k' c0' c3 c4 c5;rw [g2] at c6;cases c6;rcases st.own L.blk ⟨b,k,L,by rw [hn0];exact c0,c1,c2,rfl⟩ with h6|h6
   ·exact g3 (heq▸h6)
   ·omega
  rcases fr.get b k hb hg with h2|⟨h2,h3,h4⟩
  ·rcases fr.get b' k' hb' hg' with h2'|⟨h2',h3',h4'⟩
   ·exact s1.inj b b' k k' L L' (by rw [hn0];exact hb0) (by rw [hn0];exact hb0') hne h2 h2' hL hL'
   ·exact cross hb0 hb0' h2 hL h2' h3' h4' hL'
  ·rcases fr.get b' k' hb' hg' with h2'|⟨h2',h3',h4'⟩
   ·exact (cross hb0' hb0 h2' hL' h2 h3 h4 hL).symm
   ·rw [st.ext b h4] at hL;rw [st.ext b' h4'] at hL';exact s.inj b b' k k' L L' hb0 hb0' hne h2 h2' hL hL'
 ·rw [fr.n0,<-hn0];exact s1.size
 ·rw [fr.n0,<-hn0];exact s1.low
def ct.frame {μ0 μ μ1:Mu} {h0 G h h1 G':ae} {w0 w w1:World} (st0:ct μ0 h0 w0 μ G w) (hs:Sub h G) (st:ct μ h w μ1 h1 w1) (fr:Framed G h h1 G') (hn:G'.next=G.next)
  (hlo:h0.next<=h.next) (hhi:h1.next<=G.next):ct μ0 h0 w0 μ1 G' w1 where
 ext b hb:=by rw [hn] at hb;rw [st.ext b (by omega),st0.ext b hb]
 n0:=fr.n0.trans st0.n0
 old:=fr.old.trans st0.old
 next:=by rw [hn];exact st0.next
 os:=st.os.trans st0.os
 tape:=st.tape.trans st0.tape
 output:=st.output.trans st0.output
 size:=D9 st0.size st.size
 drawn:=D9 st0.drawn st.drawn
 same B hB hO:=by rw [st.same B (EX hB st0.size) (fun ho=>(st0.own B (ho.sub hs)).elim hO (fun h2=>by omega))];exact st0.same B hB hO
 loops B r hB:=by obtain ⟨r1,h1⟩:=st0.loops B r hB;exact st.loops B r1 h1
 own:=by
  rintro B ⟨b,k,L,hb,hg,hL,rfl⟩;rcases fr.get b k hb hg with h2|⟨h2,h3,h4⟩
  ·rcases st.own L.blk ⟨b,k,L,by rw [st.n0,hs.1,<-fr.n0];exact hb,h2,hL,rfl⟩ with h5|h5
   ·exact st0.own _ (h5.sub hs)
   ·exact .inr (D9 st0.size h5)
  ·rw [st.ext b h4] at hL;exact st0.own _ ⟨b,k,L,fr.n0▸hb,h2,hL,rfl⟩
def heapOf (n0:Nat) (old:Nat->Option (List Vl)) (g:Nat->Option BB):Nat->ae
 | 0=>⟨n0,old,.nil,0⟩
 |i+1=>match g (n0+i) with
  |some k=>(heapOf n0 old g i).ba k
  |none=>((heapOf n0 old g i).alloc []).kill (n0+i)
def mu (n0:Nat) (old:Nat->Option (List Vl)) (g:Nat->Option BB) : ∀ i,(heapOf n0 old g i).n0=n0/\(heapOf n0 old g i).old=old/\(heapOf n0 old g i).next=n0+i /\
  ∀ b,n0<=b->(heapOf n0 old g i).getB b=if b<n0+i then g b else none
 | 0=>by refine ⟨rfl,rfl,rfl,fun b hb => ?_⟩;simp [heapOf,ae.eZ,IW.2 hb]
 |i+1=>by
  obtain ⟨h1,h2,h3,h4⟩:=mu n0 old g i;unfold heapOf;cases hg:g (n0+i) with
  |some k=>
   refine ⟨h1,h2,by show (heapOf n0 old g i).next+1=_;rw [h3];omega,fun b hb => ?_⟩;simp only;rw [ae.bK,h3];by_cases e:b=n0+i
   ·subst e;simp [hg]
   ·rw [DL e,h4 b hb];by_cases e2:b<n0+i
    ·rw [DH e2,DH (by omega)]
    ·rw [DL e2,DL (by omega)]
  |none=>
   refine ⟨h1,h2,by simp [h3];omega,fun b hb => ?_⟩;simp only;unfold ae.kill;rw [ae.fc _ (by simp [h1]) (by simp [h3]),ae.dg,h3];by_cases e:b=n0+i
   ·subst e;simp [hg]
   ·rw [DL e,DL e,h4 b hb];by_cases e2:b<n0+i
    ·rw [DH e2,DH (by omega)]
    ·rw [DL e2,DL (by omega)]
def kR (acc:Array Nat) (o:Oper):Nat:=o.after.foldl (fun s e=>if Region.binds .any e then s ||| 2^e.on ||| acc.getD e.on 0 else s) 0
def befStep_bit {acc:Array Nat} {o:Oper} {j:Nat} (h:(kR acc o).testBit j=true) : ∃ e∈o.after.toList,Region.binds .any e=true/\(e.on=j\/(acc.getD e.on 0).testBit j=true):=by
 unfold kR at h;rw [<-Array.foldl_toList] at h;have key : ∀ (l:List Edge) (s:Nat),(l.foldl (fun s e=>if Region.binds .any e then s ||| 2^e.on ||| acc.getD e.on 0 else s) s).testBit j=true ->
   s.testBit j=true \/ ∃ e∈l,Region.binds .any e=true/\(e.on=j\/(acc.getD e.on 0).testBit j=true):=by
  intro l;induction l with
  |nil=>intro s h;exact .inl h
  |cons x l ih=>
   intro s h;rw [List.foldl_cons] at h;rcases ih _ h with h1|⟨e,he,h1⟩
   ·split at h1
    ·rename_i hb;rw [Nat.testBit_or,Nat.testBit_or,Nat.testBit_two_pow] at h1;simp only [FI,DR] at h1;rcases h1 with (h1|h1)|h1
     ·exact .inl h1
     ·exact .inr ⟨x,by simp,hb,.inl h1⟩
     ·exact .inr ⟨x,by simp,hb,.inr h1⟩
    ·exact .inl h1
   ·exact .inr ⟨e,by simp [he],h1⟩
 rcases key _ _ h with h|h
 ·simp at h
 ·exact h
def tR : ∀ (l:List Oper) (acc:Array Nat),∃ r:Array Nat,l.foldl (fun acc o=>acc.push (kR acc o)) acc=r/\r.size=acc.size+l.length/\(∀ i,i<acc.size->r.getD i 0=acc.getD i 0) /\
  ∀ i o,l[i]? = some o -> ∃ acc':Array Nat,acc'.size=acc.size+i/\(∀ k,k<acc'.size->acc'.getD k 0=r.getD k 0)/\r.getD (acc.size+i) 0=kR acc' o
 | [],acc=>⟨acc,rfl,rfl,fun _ _=>rfl,by simp⟩
 |o::l,acc=>by
  obtain ⟨r,h1,h2,h3,h4⟩:=tR l (acc.push (kR acc o));have hp : ∀ i,i<acc.size->(acc.push (kR acc o)).getD i 0=acc.getD i 0:=by intro i hi;simp [IH,Nat.ne_of_lt hi]
  have hp2:(acc.push (kR acc o)).getD acc.size 0=kR acc o:=by simp
  refine ⟨r,by rw [List.foldl_cons];exact h1,by rw [h2];simp;omega,fun i hi=>by rw [h3 i (by simp;omega),hp i hi],?_⟩;intro i u hu;cases i with
  |zero=>
   simp only [List.getElem?_cons_zero,DA] at hu;subst hu;refine ⟨acc,rfl,fun k hk => ?_,?_⟩
   ·rw [h3 k (by simp;omega),hp k hk]
   ·rw [Nat.add_zero,h3 _ (by simp),hp2]
  |succ i=>
   obtain ⟨acc',g1,g2,g3⟩:=h4 i u (by simpa using hu);refine ⟨acc',by rw [g1];simp;omega,g2,?_⟩;rw [<-g3]
   congr 1
   simp;omega
def before_spec {ops:Array Oper} {i j:Nat} {o:Oper} (ho:ops[i]? = some o) (h:fN (iy ops) i j=true) :
  ∃ e∈o.after.toList,Region.binds .any e=true/\(e.on=j\/(e.on<i/\fN (iy ops) e.on j=true)):=by
 unfold fN iy Region.before at h;rw [<-Array.foldl_toList] at h;obtain ⟨r,h1,h2,h3,h4⟩:=tR ops.toList #[];have hr:(Array.foldl (fun acc o=>acc.push (o.after.foldl (fun s e=>if Region.binds .any e then s ||| 2^e.on ||| acc.getD e.on 0 else s) 0)) #[] ops)=r:=by rw [<-Array.foldl_toList];exact h1
 obtain ⟨acc',g1,g2,g3⟩:=h4 i o (by simpa using ho);simp only [FR,List.length_nil,DC] at g1 g3;have hb:(kR acc' o).testBit j=true:=by rw [<-g3];exact h1▸h
 obtain ⟨e,he,hbind,hor⟩:=befStep_bit hb;refine ⟨e,he,hbind,hor.imp id fun hj => ?_⟩;have hlt:e.on<i:=by
  rcases FH e.on i with h5|h5
  ·exact h5
  ·have:acc'.getD e.on 0=0:=by simp [FQ (show acc'.size<=e.on by omega)]
   rw [this] at hj;simp at hj
 refine ⟨hlt,?_⟩;unfold fN iy Region.before;rw [hr,<-g2 e.on (by omega)];exact hj
def rD {ops:Array Oper} {X:Nat->Prop} (hX : ∀ i o,X i->ops[i]? = some o -> ∀ e∈o.after.toList,Region.binds .any e=true->X e.on) :
  ∀ (i:Nat) (o:Oper),ops[i]? = some o->(∀ e∈o.after.toList,Region.binds .any e=true->X e.on)->(∀ k,X k->(ops[k]?).isSome) -> ∀ j,fN (iy ops) i j=true->X j:=by
 intro i;induction i using Nat.strongRecOn with
 |_ i ih=>
  intro o ho hd hs j hj;obtain ⟨e,he,hb,hor⟩:=before_spec ho hj;rcases hor with rfl|⟨hlt,hj2⟩
  ·exact hd e he hb
  ·have hx:=hd e he hb;obtain ⟨o2,ho2⟩:=E9.1 (hs _ hx);exact ih e.on hlt o2 ho2 (hX _ _ hx ho2) hs j hj2
section kinds
variable {P:Program} {C:ah} {o:Oper} {ρ:Operand->Vl} {h h':ae} {v:Vl}
def Ax (hk:kindOf P o = .pure) (e:opA P C o ρ h=some (v,h')):h'=h /\ ∀ h2,opA P C o ρ h2=some (v,h2):=by
 have pure_of : ∀ {r:Option Vl},r.map (fun v=>(v,h))=some (v,h')->h'=h /\ ∀ h2:ae,r.map (fun v=>(v,h2))=some (v,h2):=by intro r e;simp only [DJ,DF] at e;obtain ⟨x,rfl,rfl,rfl⟩:=e;exact ⟨rfl,fun h2=>rfl⟩
 unfold opA at e |-;simp only at e |-;split at e;all_goals (rename_i heq)
 all_goals try rw [heq]
 all_goals first
  |exact pure_of e
  | (cases e;exact ⟨rfl,fun _=>rfl⟩)
  | (split at e
     ·cases e;rename_i hc;exact ⟨rfl,fun _=>by simp only [hc]⟩
     ·cases e)
  | (simp [kindOf,heq] at hk;done)
  | (simp only [kindOf,heq] at hk;split at hk<;>cases hk;done)
  | (cases e;done)
  | (split at e
     ·cases e
     ·rename_i hny;cases e;exact ⟨rfl,fun _=>rfl⟩)
def qY (hk:kindOf P o = .read) (e:opA P C o ρ h=some (v,h')):h'=h:=by
 unfold opA at e;simp only at e;split at e;all_goals (rename_i heq)
 all_goals try (simp [kindOf,heq] at hk;done)
 ·unfold ld at e;split at e
  ·unfold bQ at e
   repeat' split at e
   all_goals first
    | (cases e;done)
    | (simp only [DA,DF] at e;exact e.2.symm)
  ·unfold ld1 at e
   repeat' split at e
   all_goals first
    | (cases e;done)
    | (simp only [DA,DF] at e;exact e.2.symm)
  ·cases e
 ·simp only [kindOf,heq] at hk;unfold convA at e;split at e
  ·cases e;rfl
  ·cases e;rfl
  ·rename_i hd _;rw [hd] at hk;cases hk
  ·rename_i hd _;rw [hd] at hk;cases hk
  ·repeat' split at e
   all_goals first
    | (cases e;done)
    | (cases e;rfl)
  ·cases e
 ·exact vI e
 ·exact xM e
 ·rename_i c;simp only [kindOf,heq] at hk;split at hk;all_goals first
   | (cases hk;done)
   |skip
  all_goals
   rename_i hc;rw [hc] at e;simp only [builtinA] at e;split at e;all_goals first
    |contradiction
    | (cases e;done)
    | (simp only [DJ,DF] at e;obtain ⟨_,_,_,rfl⟩:=e;rfl)
    | (split at e
       ·cases e;rfl
       ·split at e
        ·simp only [DJ,DF] at e;obtain ⟨_,_,_,rfl⟩:=e;rfl
        ·cases e)
def lL (hk:kindOf P o = .alloc) (e:opA P C o ρ h=some (v,h')) :
  ∃ (k:BB) (mk:Nat->Vl),h'=h.ba k/\v=mk h.next /\ ∀ h2:ae,opA P C o ρ h2=some (mk h2.next,h2.ba k):=by
 unfold opA at e |-;simp only at e |-;split at e;all_goals (rename_i heq)
 all_goals try (simp [kindOf,heq] at hk;done)
 ·simp only [zero] at e |-;split at e
  ·rename_i z hz;split at e
   ·rename_i hf;simp only [newRow,DA,DF] at e;obtain ⟨rfl,rfl⟩:=e;exact ⟨_,fun n=>ptr n 0,rfl,rfl,fun h2=>by simp only [hf,DV,newRow];rfl⟩
   ·cases e
  ·cases e
 ·simp only [box] at e |-;split at e
  ·rename_i hf;simp only [newRow,DA,DF] at e;obtain ⟨rfl,rfl⟩:=e;exact ⟨_,fun n=>ptr n 0,rfl,rfl,fun h2=>by simp only [hf,DV,newRow];rfl⟩
  ·cases e
 ·simp only [buildSliceA] at e |-;split at e
  ·split at e
   ·split at e
    ·rename_i hc;split at e
     ·rename_i cs hcs;simp only [DA,DF] at e;obtain ⟨rfl,rfl⟩:=e;exact ⟨_,fun n => .slice (some ⟨n,0,none⟩) _ _,rfl,rfl,fun h2=>by rw [DH hc];rfl⟩
     ·cases e
    ·cases e
   ·cases e
  ·cases e
 ·simp only [kindOf,heq] at hk;split at hk<;>cases hk
 ·simp only [makeA] at e |-;split at e
  ·split at e
   ·split at e
    ·rename_i hc;simp only [DA,DF] at e;obtain ⟨rfl,rfl⟩:=e;exact ⟨_,fun n => .slice (some ⟨n,0,none⟩) _ _,rfl,rfl,fun h2=>by rw [DH hc];rfl⟩
    ·cases e
   ·cases e
  ·cases e
 ·rename_i t r;simp only [dX] at e |-;split at e
  ·rename_i hr;cases e;exact ⟨_,fun n => .map (some n),rfl,rfl,fun h2=>rfl⟩
  ·rename_i hr;split at e
   ·rename_i hc;cases e;exact ⟨_,fun n => .map (some n),rfl,rfl,fun h2=>by rw [DH hc]⟩
   ·cases e
  ·cases e
 ·simp only [kindOf,heq] at hk;split at hk<;>cases hk
end kinds
section late
variable {P:Program} {ops:Array Oper}
def nT (P:Program) (m:Array Nat) (y:Nat×Oper) : ∀ (l pend:List (Nat×Oper)),y∈lateGo P m l pend↔y∈l\/y∈pend
 | [],pend=>by simp [lateGo]
 |x::l,pend=>by
  unfold lateGo;split
  ·rw [nT P m y l];simp only [D8,ER,ET,GX]
   grind
  ·rw [D8,ER,nT P m y l,FN,FN,ER];cases hb:fN m x.1 y.1<;>grind
def mem_zip {i:Nat} {o:Oper}:(i,o)∈(ops.toList.zipIdx.map fun x=>(x.2,x.1))↔ops[i]? = some o:=by
 simp only [EZ,DF];constructor
 ·rintro ⟨⟨u,k⟩,hm,rfl,rfl⟩;have:=GV.1 hm;simpa using this
 ·intro h;exact ⟨(o,i),GV.2 (by simpa using h),rfl,rfl⟩
def xK {i:Nat} {o:Oper}:(i,o)∈late P ops↔ops[i]? = some o:=by
 have key:(i,o)∈(ops.toList.zipIdx.map fun x=>(x.2,x.1))↔ops[i]? = some o:=mem_zip;unfold late;split
 ·unfold late0;rw [nT];simp only [ET,GX];exact key
 ·unfold late1;rw [D8,nT,FN,FN,<-key];simp only [ET,GX];cases early P ops (iy ops) (i,o)<;>simp
def yG {r:(Nat×Oper)->(Nat×Oper)->Bool} : ∀ {l:List (Nat×Oper)},tU r l=true -> ∀ {p q:Nat} {x y:Nat×Oper},p<q->l[p]? = some x->l[q]? = some y->r x y=true
 | [],_,p,q,x,y,_,hx,_=>by simp at hx
 |a::l,h,p,q,x,y,hpq,hx,hy=>by
  simp only [tU,DD] at h;cases q with
  |zero=>omega
  |succ q=>
   simp only [List.getElem?_cons_succ] at hy;cases p with
   |zero=>
    simp only [List.getElem?_cons_zero,DA] at hx;subst hx;exact DQ.1 h.1 y (D7 hy)
   |succ p=>exact yG (p:=p) (q:=q) h.2 (by omega) (by simpa using hx) hy
end late
structure Tra (P:Program) (C:ah) (ops:Array Oper) (l:List (Nat×Oper)) (E:Nat->aO) (H:Nat->ae) (V:Nat->Vl) (R:Nat->Bool):Prop where
 step : ∀ p x,l[p]? = some x->R p=ki ops x.2 (E p)/\E (p+1)=putD (E p) x.2.dst (V p) /\
  (R p=true->opA P C x.2 (ev (E p)) (H p)=some (V p,H (p+1)))/\(R p=false->V p=undef/\H (p+1)=H p)
def qS {P:Program} {C:ah} {ops:Array Oper} : ∀ {l:List (Nat×Oper)} {e e':aO} {h h':ae} {tr:List Ce},traceA P C ops l e h=some (tr,e',h') ->
  ∃ E H V R,E 0=e/\H 0=h/\E l.length=e'/\H l.length=h'/\Tra P C ops l E H V R/\tr=(List.range l.length).map fun p=>⟨E p,H p,V p,R p⟩
 | [],e,e',h,h',tr,he=>by simp only [traceA,DA,DF] at he;obtain ⟨rfl,rfl,rfl⟩:=he;exact ⟨fun _=>e,fun _=>h,fun _=>undef,fun _=>false,rfl,rfl,rfl,rfl,⟨by simp⟩,rfl⟩
 | (i,o)::l,e,e',h,h',tr,he=>by
   have build : ∀ (v:Vl) (h1:ae) (r:Bool) (tl:List Ce),r=ki ops o e->(r=true->opA P C o (ev e) h=some (v,h1))->(r=false->v=undef/\h1=h) ->
     traceA P C ops l (putD e o.dst v) h1=some (tl,e',h')->tr=⟨e,h,v,r⟩::tl ->
     ∃ E H V R,E 0=e/\H 0=h/\E ((i,o)::l).length=e'/\H ((i,o)::l).length=h'/\Tra P C ops ((i,o)::l) E H V R/\tr=(List.range ((i,o)::l).length).map fun p=>⟨E p,H p,V p,R p⟩:=by
    intro v h1 r tl hr hrt hrf htl htr;obtain ⟨E,H,V,R,e0,h0,e1,h1',T,ht⟩:=qS htl;refine ⟨fun p=>match p with|0=>e|p+1=>E p,fun p=>match p with|0=>h|p+1=>H p,fun p=>match p with|0=>v|p+1=>V p,fun p=>match p with|0=>r|p+1=>R p,
     rfl,rfl,e1,h1',⟨?_⟩,?_⟩
    ·intro p x hx;cases p with
     |zero=>
      simp only [List.getElem?_cons_zero,DA] at hx;subst hx;refine ⟨hr,e0,fun h => ?_,fun h => ?_⟩
      ·simp only;rw [h0];exact hrt h
      ·simp only;rw [h0];exact hrf h
     |succ p=>exact T.step p x (by simpa using hx)
    ·rw [htr,ht,List.length_cons,List.range_succ_eq_map];simp [HY,Function.comp_def]
   simp only [traceA] at he;split at he
   ·rename_i hw;split at he
    ·rename_i v h1 hop;split at he
     ·rename_i tl r htl;simp only [DA,DF] at he;obtain ⟨htr,rfl⟩:=he;exact build v h1 true tl hw.symm (fun _=>hop) (by simp) htl htr.symm
     ·cases he
    ·cases he
   ·rename_i hw;split at he
    ·rename_i tl r htl;simp only [DA,DF] at he;obtain ⟨htr,rfl⟩:=he;exact build undef h false tl (by simpa using hw) (by simp) (fun _=>⟨rfl,rfl⟩) htl htr.symm
    ·cases he
def envS (l:List (Nat×Oper)) (V:Nat->Vl) (x:Nat->Bool) (e:aO):Nat->aO
 | 0=>e
 |p+1=>if x p then putD (envS l V x e p) ((l[p]?).bind (·.2.dst)) (V p) else envS l V x e p
section envs
variable {l:List (Nat×Oper)} {V:Nat->Vl} {e:aO}
def pc (e:aO) (d:Option Tmp) (v:Vl):(putD e d v).length=e.length:=by cases d<;>simp [putD]
def iR (x:Nat->Bool) : ∀ n,(envS l V x e n).length=e.length
 | 0=>rfl
 |n+1=>by
  unfold envS;split
  ·rw [pc,iR x n]
  ·exact iR x n
def lT {x y:Nat->Bool} {t:Tmp} : ∀ n,(∀ q,q<n->(l[q]?).bind (·.2.dst)=some t->x q=y q)->(envS l V x e n)[t]? = (envS l V y e n)[t]?
 | 0,_=>rfl
 |n+1,h=>by
  have ih:=lT n (fun q hq=>h q (by omega));have hl:(envS l V x e n).length=(envS l V y e n).length:=by rw [iR,iR]
  unfold envS;by_cases hd:(l[n]?).bind (·.2.dst)=some t
  ·have hxy:=h n (by omega) hd;rw [hd,hxy];split
   ·show ((envS l V x e n).set t (V n))[t]? = ((envS l V y e n).set t (V n))[t]?;rw [FU,FU,DH rfl,DH rfl,hl]
   ·exact ih
  ·have hput : ∀ z:aO,(putD z ((l[n]?).bind (·.2.dst)) (V n))[t]? = z[t]? := by
    intro z;cases hz:(l[n]?).bind (·.2.dst) with
    |none=>rfl
    |some u=>
     have:u≠t:=by rintro rfl;exact hd hz
     simp only [putD];rw [IV this]
   split<;>split<;>(try rw [hput])<;>(try rw [hput])<;>exact ih
def sU {x:Nat->Bool} {p:Nat} : ∀ n,p<=n->(∀ q,x q=decide (q<p))->envS l V x e n=envS l V (fun _=>true) e p
 | 0,hp,_=>by obtain rfl:p=0:=by omega
              rfl
 |n+1,hp,hx=>by
  by_cases e1:p=n+1
  ·subst e1;have key : ∀ m,m<=n+1->envS l V x e m=envS l V (fun _=>true) e m:=by
    intro m;induction m with
    |zero=>intro _;rfl
    |succ m ih=>
     intro hm;unfold envS;rw [ih (by omega),hx m];simp [show m<n+1 from by omega]
   exact key _ (DG _)
  ·have:x n=false:=by rw [hx n];simp;omega
   conv=>lhs;unfold envS
   rw [this];exact sU n (by omega) hx
def uf {P:Program} {C:ah} {ops:Array Oper} {E:Nat->aO} {H:Nat->ae} {R:Nat->Bool} (T:Tra P C ops l E H V R) (h0:E 0=e) : ∀ p,p<=l.length->E p=envS l V (fun _=>true) e p
 | 0,_=>h0
 |p+1,hp=>by
  have hlt:p<l.length:=by omega
  obtain ⟨_,h2,_⟩:=T.step p l[p] (DE hlt);rw [h2,uf T h0 p (by omega)];simp [envS,DE hlt]
end envs
mutual
def C0 : ∀ {a b:Vl},veq a b=true->a=b
 | .bool a,b,h=>by cases b<;>simp [veq] at h;subst h;rfl
 | .int k a,b,h=>by cases b<;>simp [veq] at h;obtain ⟨rfl,rfl⟩:=h;rfl
 | .float k a,b,h=>by cases b<;>simp [veq] at h;obtain ⟨rfl,rfl⟩:=h;rfl
 | .complex k a c,b,h=>by cases b<;>simp [veq] at h;obtain ⟨⟨rfl,rfl⟩,rfl⟩:=h;rfl
 | .string a,b,h=>by cases b<;>simp [veq] at h;rename_i c;obtain ⟨x⟩:=a;obtain ⟨y⟩:=c;simp only at h;rw [h]
 | .pointer a,b,h=>by cases b<;>simp [veq] at h;subst h;rfl
 | .slice a l c,b,h=>by cases b<;>simp [veq] at h;obtain ⟨⟨rfl,rfl⟩,rfl⟩:=h;rfl
 | .map a,b,h=>by cases b<;>simp [veq] at h;subst h;rfl
 | .chan a,b,h=>by cases b<;>simp [veq] at h;subst h;rfl
 | .nilFunc,b,h=>by cases b<;>simp [veq] at h;rfl
 | .nilIface,b,h=>by cases b<;>simp [veq] at h;rfl
 | .agg ⟨x⟩,b,h=>by cases b<;>simp [veq] at h;rename_i c;obtain ⟨y⟩:=c;simp only [veq] at h;rw [nU h]
 | .tuple ⟨x⟩,b,h=>by cases b<;>simp [veq] at h;rename_i c;obtain ⟨y⟩:=c;simp only [veq] at h;rw [nU h]
 | .func f ⟨x⟩ ⟨y⟩,b,h=>by cases b<;>simp [veq] at h;rename_i g c d;obtain ⟨z⟩:=c;obtain ⟨u⟩:=d;simp only [veq,DD,beq_iff_eq] at h;obtain ⟨⟨h1,h2⟩,h3⟩:=h;rw [h1,nU h2,nU h3]
 | .iface t x,b,h=>by cases b<;>simp [veq] at h;rename_i u y;obtain ⟨rfl,h2⟩:=h;rw [C0 h2]
def nU : ∀ {a b:List Vl},veqL a b=true->a=b
 | [],b,h=>by cases b<;>simp [veqL] at h;rfl
 |x::a,b,h=>by cases b<;>simp [veqL] at h;obtain ⟨h1,h2⟩:=h;rw [C0 h1,nU h2]
end
def kind_cases {P:Program} {C:ah} (hC:bk P C) {o:Oper} {ρ:Operand->Vl} {h h':ae} {v:Vl} (e:opA P C o ρ h=some (v,h')) :
  kindOf P o = .eff\/h'=h\/(kindOf P o = .alloc /\ ∃ k,h'=h.ba k):=by
 cases hk:kindOf P o with
 |pure=>exact .inr (.inl (Ax hk e).1)
 |read=>exact .inr (.inl (qY hk e))
 |alloc=>obtain ⟨k,mk,h1,_⟩:=lL hk e;exact .inr (.inr ⟨rfl,k,h1⟩)
 |eff=>exact .inl rfl
section tra
variable {P:Program} {C:ah} {ops:Array Oper} {l:List (Nat×Oper)} {E:Nat->aO} {H:Nat->ae} {V:Nat->Vl} {R:Nat->Bool}
def Tra.grow1 (hC:bk P C) (T:Tra P C ops l E H V R) {p:Nat} {x:Nat×Oper} (hx:l[p]? = some x):bH (H p) (H (p+1)):=by
 obtain ⟨_,_,h3,h4⟩:=T.step p x hx;cases hr:R p with
 |true=>exact kW hC (h3 hr)
 |false=>rw [(h4 hr).2];exact bH.refl _
def Tra.grow (hC:bk P C) (T:Tra P C ops l E H V R) {p q:Nat} (hpq:p<=q) (hq:q<=l.length):bH (H p) (H q):=by
 induction q with
 |zero=>obtain rfl:p=0:=by omega
        exact bH.refl _
 |succ q ih=>
  by_cases e:p=q+1
  ·subst e;exact bH.refl _
  ·exact (ih (by omega) (by omega)).trans (T.grow1 hC (DE (show q<l.length by omega)))
def Tra.bd (hC:bk P C) (T:Tra P C ops l E H V R) (hg:P.globals.size<=(H 0).n0) (hok : ∀ (p:Nat) (x:Nat×Oper),l[p]? = some x->pX P x.2=true) (he:cT (H 0).next (E 0)=true) (hh:aE (H 0)) : ∀ p,p<=l.length->cT (H p).next (E p)=true/\aE (H p)
 | 0,_=>⟨he,hh⟩
 |p+1,hp=>by
  obtain ⟨h1,h2⟩:=T.bd hC hg hok he hh p (by omega);have hx:l[p]? = some l[p]:=DE (by omega);obtain ⟨_,h3,h4,h5⟩:=T.step p _ hx;have hgr:=T.grow1 hC hx;have hn0:=(T.grow hC (FL p) (by omega)).2.1;cases hr:R p with
  |true=>
   obtain ⟨h6,h7⟩:=BV hC h2 (fun x hm=>AJ (by rw [hn0];exact hg) h1 (DQ.1 (hok p _ hx) x hm)) (h4 hr);rw [h3];exact ⟨re (cy hgr.1 h1) h6,h7⟩
  |false=>
   obtain ⟨h6,h7⟩:=h5 hr;rw [h3,h6,h7];exact ⟨re h1 rfl,h2⟩
def Tra.noeff (hC:bk P C) (T:Tra P C ops l E H V R) {p q:Nat} (hpq:p<=q) (hq:q<=l.length) (hne : ∀ r x,p<=r->r<q->l[r]? = some x->kindOf P x.2 ≠ .eff) :
  (∀ b k,(H p).getB b=some k->(H q).getB b=some k) /\
  ∀ b k,(H q).getB b=some k->(H p).getB b=some k \/ ∃ r x,p<=r/\r<q/\l[r]? = some x/\kindOf P x.2 = .alloc/\R r=true/\b=(H r).next/\H (r+1)=(H r).ba k:=by
 induction q with
 |zero=>
  obtain rfl:p=0:=by omega
  exact ⟨fun _ _ h=>h,fun _ _ h => .inl h⟩
 |succ q ih=>
  by_cases e:p=q+1
  ·subst e;exact ⟨fun _ _ h=>h,fun _ _ h => .inl h⟩
  ·obtain ⟨h1,h2⟩:=ih (by omega) (by omega) (fun r x hr hrq hx=>hne r x hr (by omega) hx);have hlt:q<l.length:=by omega
   have hx:l[q]? = some l[q]:=DE hlt;obtain ⟨_,_,h3,h4⟩:=T.step q _ hx;have key:H (q+1)=H q\/(kindOf P l[q].2 = .alloc/\R q=true /\ ∃ k,H (q+1)=(H q).ba k):=by
    cases hr:R q with
    |false=>exact .inl (h4 hr).2
    |true=>
     rcases kind_cases hC (h3 hr) with h5|h5|⟨h5,k,h6⟩
     ·exact absurd h5 (hne q _ (by omega) (by omega) hx)
     ·exact .inl h5
     ·exact .inr ⟨h5,rfl,k,h6⟩
   rcases key with h5|⟨h5,h6,k,h7⟩
   ·rw [h5];refine ⟨h1,fun b k hb=>(h2 b k hb).imp id ?_⟩;rintro ⟨r,x,g1,g2,g3⟩;exact ⟨r,x,g1,by omega,g3⟩
   ·refine ⟨fun b k' hb=>by rw [h7];exact ae.uS (h1 b k' hb) k,fun b k' hb => ?_⟩;rw [h7,ae.bK] at hb;by_cases eb:b=(H q).next
    ·rw [DH eb] at hb;cases hb;exact .inr ⟨q,_,by omega,by omega,hx,h5,h6,eb,h7⟩
    ·rw [DL eb] at hb;refine (h2 b k' hb).imp id ?_;rintro ⟨r,x,g1,g2,g3⟩;exact ⟨r,x,g1,by omega,g3⟩
end tra
def xsOf (l:List (Nat×Oper)) (listed:Array Bool) (p:Nat):Bool:=
 match l[p]? with
 |some x=>listed.getD x.1 false
 |none=>false
def tG (H:Nat->ae) (R:Nat->Bool) (h:ae) (mk:List Nat):ae:=mk.foldl (fun h r=>ae.plus (R r) h (H r) (H (r+1))) h
def ae.pad_spec (h:ae) : ∀ c,(ae.pad c h).n0=h.n0/\(ae.pad c h).old=h.old/\(ae.pad c h).next=h.next+c /\ ∀ b k,h.n0<=b->(ae.pad c h).getB b=some k->h.getB b=some k
 | 0=>⟨rfl,rfl,rfl,fun _ _ _ e=>e⟩
 |c+1=>by
  obtain ⟨h1,h2,h3,h4⟩:=ae.pad_spec h c;refine ⟨h1,h2,by simp [ae.pad,h3];omega,fun b k hb e => ?_⟩;unfold ae.pad ae.kill at e;have hn:=h.n0_le_next;rw [ae.fc _ (by simp [h1,h3];omega) (by simp),ae.dg] at e;split at e
  ·cases e
  ·exact h4 b k hb e
def iJ {P:Program} {l:List (Nat×Oper)} {p q r:Nat} (h:r∈madeIn P l (p,q)):q<=r/\r<p /\ ∃ y,l[r]? = some y/\kindOf P y.2 = .alloc /\ ∃ z t,l[p]? = some z/\y.2.dst=some t/\t∈yh z.2:=by
 unfold madeIn at h;split at h
 ·rw [FN,IM,DD,DR] at h;obtain ⟨h1,h2,h3⟩:=h;refine ⟨h2,h1,?_⟩;split at h3
  ·rename_i y z hy hz;rw [DD] at h3;refine ⟨y,hy,by simpa using h3.1,z,?_⟩;have h4:=h3.2;split at h4
   ·rename_i t ht;exact ⟨t,hz,ht,by simpa [HP] using h4⟩
   ·cases h4
  ·cases h3
 ·simp at h
def madeIn_nil {P:Program} {l:List (Nat×Oper)} {p q:Nat} (h : ¬q<p):madeIn P l (p,q) = []:=by unfold madeIn;rw [DL h]
def zG {P:Program} {l:List (Nat×Oper)} {x:Nat×Nat}:(madeIn P l x).Pairwise (· < ·):=by
 unfold madeIn;split
 ·exact List.Pairwise.filter _ List.pairwise_lt_range
 ·exact List.Pairwise.nil
def vB {H:Nat->ae} {R:Nat->Bool} {G:ae} : ∀ (mk:List Nat) (h:ae) (N:Nat),mk.Pairwise (· < ·)->(∀ r∈mk,h.next<=(H r).next)->(∀ r∈mk,∀ r'∈mk,r<r'->(H (r+1)).next<=(H r').next)->(∀ r∈mk,(H r).next<=(H (r+1)).next/\(H (r+1)).next<=N)->h.next<=N ->
  (∀ r∈mk,R r=true -> ∃ k,H (r+1)=(H r).ba k/\G.getB (H r).next=some k)->h.n0=G.n0->h.old=G.old->(∀ b k,h.n0<=b->h.getB b=some k->G.getB b=some k) ->
  Sub (tG H R h mk) G/\h.next<=(tG H R h mk).next/\(tG H R h mk).next<=N
 | [],h,N,_,_,_,_,hN,_,e1,e2,e3=>⟨⟨e1,e2,e3⟩,DG _,hN⟩
 |r::mk,h,N,hs,h1,h2,h3,hN,h4,e1,e2,e3=>by
  have hs':=List.pairwise_cons.1 hs;have hr:=h1 r EW;have h3r:=h3 r EW;have step:(ae.plus (R r) h (H r) (H (r+1))).n0=G.n0/\(ae.plus (R r) h (H r) (H (r+1))).old=G.old/\(∀ b k,(ae.plus (R r) h (H r) (H (r+1))).n0<=b->(ae.plus (R r) h (H r) (H (r+1))).getB b=some k->G.getB b=some k)/\h.next<=(ae.plus (R r) h (H r) (H (r+1))).next/\(ae.plus (R r) h (H r) (H (r+1))).next<=(H (r+1)).next:=by
   unfold ae.plus;cases hR:R r with
   |false=>exact ⟨e1,e2,e3,DG _,D9 hr h3r.1⟩
   |true=>
    obtain ⟨k,k1,k2⟩:=h4 r EW hR;have hk:(H (r+1)).getB (H r).next=some k:=by rw [k1,ae.bK,DH rfl]
    have hnx:(H (r+1)).next=(H r).next+1:=by rw [k1];simp
    rw [DH rfl,hk];obtain ⟨p1,p2,p3,p4⟩:=ae.pad_spec h ((H r).next-h.next);refine ⟨p1.trans e1,p2.trans e2,fun b k' hb e => ?_,by simp [p3];omega,by simp [p3,hnx];omega⟩;simp only [ae.uR] at hb;rw [ae.bK,p3] at e;split at e
    ·rename_i hbe;cases e;rw [hbe,show h.next+((H r).next-h.next)=(H r).next by omega];exact k2
    ·exact e3 b k' (p1▸hb) (p4 b k' (p1▸hb) e)
  obtain ⟨s1,s2,s3,s4,s5⟩:=step;have ih:=vB (H:=H) (R:=R) (G:=G) mk (ae.plus (R r) h (H r) (H (r+1))) N hs'.2
   (fun r' hr'=>D9 s5 (h2 r EW r' (EL _ hr') (hs'.1 r' hr')))
   (fun a ha b hb=>h2 a (EL _ ha) b (EL _ hb)) (fun a ha=>h3 a (EL _ ha)) (D9 s5 h3r.2) (fun a ha=>h4 a (EL _ ha)) s1 s2 s3
  exact ⟨ih.1,D9 s4 ih.2.1,ih.2.2⟩
structure uy (P:Program) (C:ah) (ops:Array Oper) (l:List (Nat×Oper)) (E:Nat->aO) (H:Nat->ae) (V:Nat->Vl) (R:Nat->Bool):Prop where
 hC:bk P C
 tra:Tra P C ops l E H V R
 len:l.length=ops.size
 pos : ∀ (i:Nat) (o:Oper),ops[i]? = some o -> ∃ p:Nat,l[p]? = some (i,o)
 at_ : ∀ (p i:Nat) (o:Oper),l[p]? = some (i,o)->ops[i]? = some o
 fwd : ∀ (i:Nat) (o:Oper),ops[i]? = some o -> ∀ e∈o.after.toList,Region.binds .any e=true->e.on<i
 guard : ∀ (p i:Nat) (o:Oper) (j:Nat) (b:Bool),l[p]? = some (i,o)->o.guard=some (j,b)->fN (iy ops) i j=true
 ord : ∀ (p q:Nat) (x y:Nat×Oper),p<q->l[p]? = some x->l[q]? = some y->x.1≠y.1/\fN (iy ops) x.1 y.1=false/\(fN (iy ops) y.1 x.1=true\/oN P ops x y=false)
 dyn : ∀ (p q:Nat) (x y:Nat×Oper),l[p]? = some x->l[q]? = some y->kindOf P x.2 = .read->R p=true->hard P y.2 q p=true->fN (iy ops) x.1 y.1=false->fN (iy ops) y.1 x.1=false ->
  ∃ h',opA P C x.2 (ev (E p)) (tG H R (H (if q<p then q else q+1)) (madeIn P l (p,q)))=some (V p,h')
 ok : ∀ o∈ops.toList,pX P o=true
 bdE : ∀ p,p<=l.length->cT (H p).next (E p)=true
 bdH : ∀ p,p<=l.length->aE (H p)
structure Inv (D:List Deferred) (P:Program) (ops:Array Oper) (l:List (Nat×Oper)) (E:Nat->aO) (H:Nat->ae) (V:Nat->Vl) (R:Nat->Bool) (μ0:Mu) (w0:World) (listed:Array Bool) (m:Nat) (G:ae) (μ:Mu) (a:Act) (w:World):Prop where
 size:listed.size=ops.size
 closed : ∀ (i:Nat) (o:Oper),listed.getD i false=true->ops[i]? = some o -> ∀ e∈o.after.toList,Region.binds .any e=true->listed.getD e.on false=true
 le:m<=l.length
 effs : ∀ (p:Nat) (x:Nat×Oper),l[p]? = some x->kindOf P x.2 = .eff->(listed.getD x.1 false=true↔p<m)
 allocs : ∀ (p:Nat) (x:Nat×Oper),p<m->l[p]? = some x->kindOf P x.2 = .alloc->listed.getD x.1 false=true
 gn0:G.n0=(H 0).n0
 gold:G.old=(H 0).old
 gnext:G.next=(H l.length).next
 here : ∀ b k,(H 0).n0<=b->(H m).getB b=some k->G.getB b=some k
 later : ∀ (p:Nat) (x:Nat×Oper) (k:BB),m<=p->l[p]? = some x->kindOf P x.2 = .alloc->listed.getD x.1 false=true->R p=true->H (p+1)=(H p).ba k->G.getB (H p).next=some k
 free : ∀ b,(H m).next<=b->b<(H l.length).next->(∀ (p:Nat) (x:Nat×Oper),m<=p->l[p]? = some x->kindOf P x.2 = .alloc->listed.getD x.1 false=true->R p=true->b≠(H p).next)->μ b=none
 sim:cD μ G w
 stp:ct μ0 (H 0) w0 μ G w
 env:jU D μ (envS l V (xsOf l listed) (E 0) l.length) a
section inv
variable {P:Program} {C:ah} {ops:Array Oper} {l:List (Nat×Oper)} {E:Nat->aO} {H:Nat->ae} {V:Nat->Vl} {R:Nat->Bool} {μ0:Mu} {w0:World} {D:List Deferred} {ro:Option Nat} {nd:Nat}
 {listed:Array Bool} {m:Nat} {G:ae} {μ:Mu} {a:Act} {w:World}
def uy.n0 (r:uy P C ops l E H V R) {p:Nat} (hp:p<=l.length):(H p).n0=(H 0).n0/\(H p).old=(H 0).old:=(r.tra.grow r.hC (FL p) hp).2
def uy.fW (r:uy P C ops l E H V R) {p q:Nat} (hpq:p<=q) (hq:q<=l.length):(H p).next<=(H q).next:=(r.tra.grow r.hC hpq hq).1
def uy.lt (r:uy P C ops l E H V R) {p:Nat} {x:Nat×Oper} (hx:l[p]? = some x):p<l.length:=(DZ.1 hx).1
def Inv.before (r:uy P C ops l E H V R) (I:Inv D P ops l E H V R μ0 w0 listed m G μ a w) {i j:Nat} (hi:listed.getD i false=true) (hb:fN (iy ops) i j=true):listed.getD j false=true:=by
 have hlt:i<ops.size:=by
  rcases FH i ops.size with h|h
  ·exact h
  ·rw [<-I.size] at h;simp [FQ h] at hi
 have ho:ops[i]? = some ops[i]:=G7 hlt;refine rD (X:=fun k=>listed.getD k false=true) I.closed i _ ho (I.closed i _ hi ho) ?_ j hb;intro k hk;have:k<ops.size:=by
  rcases FH k ops.size with h|h
  ·exact h
  ·rw [<-I.size] at h;simp [FQ h] at hk
 simp [this]
def Inv.ready (I:Inv D P ops l E H V R μ0 w0 listed m G μ a w) {i:Nat} {o:Oper} (ho:ops[i]? = some o) (hr : ∀ e∈o.after.toList,Region.binds .any e=true->listed.getD e.on false=true) {j:Nat}
  (hb:fN (iy ops) i j=true):listed.getD j false=true:=by
 refine rD (X:=fun k=>listed.getD k false=true) I.closed i o ho hr ?_ j hb;intro k hk;have:k<ops.size:=by
  rcases FH k ops.size with h|h
  ·exact h
  ·rw [<-I.size] at h;simp [FQ h] at hk
 simp [this]
def Inv.advance (r:uy P C ops l E H V R) (I:Inv D P ops l E H V R μ0 w0 listed m G μ a w) {p:Nat} (hmp:m<=p) (hp:p<=l.length) (hne : ∀ (q:Nat) (x:Nat×Oper),m<=q->q<p->l[q]? = some x->kindOf P x.2 ≠ .eff)
  (hal : ∀ (q:Nat) (x:Nat×Oper),m<=q->q<p->l[q]? = some x->kindOf P x.2 = .alloc->listed.getD x.1 false=true) (hend : ∀ (q:Nat) (x:Nat×Oper),p<=q->l[q]? = some x->kindOf P x.2 = .eff->listed.getD x.1 false=false) :
  Inv D P ops l E H V R μ0 w0 listed p G μ a w:=by
 obtain ⟨n1,n2⟩:=r.tra.noeff r.hC hmp hp hne;refine ⟨I.size,I.closed,hp,?_,?_,I.gn0,I.gold,I.gnext,?_,?_,?_,I.sim,I.stp,I.env⟩
 ·intro q x hx hk;constructor
  ·intro hl;rcases FH q p with h|h
   ·exact h
   ·rw [hend q x h hx hk] at hl;cases hl
  ·intro hq;rcases FH q m with h|h
   ·exact (I.effs q x hx hk).2 h
   ·exact absurd hk (hne q x h hq hx)
 ·intro q x hq hx hk;rcases FH q m with h|h
  ·exact I.allocs q x h hx hk
  ·exact hal q x h hq hx hk
 ·intro b k hb hg;rcases n2 b k hg with h|⟨q,x,h1,h2,h3,h4,h5,rfl,h7⟩
  ·exact I.here b k hb h
  ·exact I.later q x k h1 h3 h4 (hal q x h1 h2 h3 h4) h5 h7
 ·intro q x k hq hx hk hl hr hh;exact I.later q x k (by omega) hx hk hl hr hh
 ·intro b hb hn hne';refine I.free b (D9 (r.fW hmp hp) hb) hn ?_;intro q x hq hx hk hl hr hbq;rcases FH q p with h|h
  ·
   have h2:=(r.tra.step q x hx).2.2.1 hr;obtain ⟨k,mk,h3,_⟩:=lL hk h2;have h4:=r.fW (show q+1<=p by omega) hp;rw [h3] at h4;simp at h4;omega
  ·exact hne' q x h hx hk hl hr hbq
end inv
section inv
variable {P:Program} {C:ah} {ops:Array Oper} {l:List (Nat×Oper)} {E:Nat->aO} {H:Nat->ae} {V:Nat->Vl} {R:Nat->Bool} {μ0:Mu} {w0:World} {D:List Deferred} {ro:Option Nat} {nd:Nat}
 {listed:Array Bool} {m:Nat} {G:ae} {μ:Mu} {a:Act} {w:World} {p i:Nat} {o:Oper}
def jc (o:Oper) (listed:Array Bool):Prop := ∀ e∈o.after.toList,Region.binds .any e=true->listed.getD e.on false=true
def clash_left {x y:Nat×Oper} {t:Tmp} (hd:y.2.dst=some t) (ht:t∈jC ops x.2):oN P ops x y=true:=by unfold oN;rw [hd];simp [HP,ht]
def vw {x y:Nat×Oper} {t:Tmp} (hd:x.2.dst=some t) (ht:t∈jC ops y.2):oN P ops x y=true:=by unfold oN;rw [hd];simp [HP,ht]
def Inv.writers (r:uy P C ops l E H V R) (I:Inv D P ops l E H V R μ0 w0 listed m G μ a w) (hx:l[p]? = some (i,o)) (hnl:listed.getD i false=false) (he:jc o listed) {t:Tmp} (ht:t∈jC ops o) :
  ∀ q,q<l.length->(l[q]?).bind (·.2.dst)=some t->xsOf l listed q=decide (q<p):=by
 intro q hq hd;have hy:l[q]? = some l[q]:=DE hq;have hxs:xsOf l listed q=listed.getD l[q].1 false:=by unfold xsOf;rw [hy]
 rw [hxs];rw [hy] at hd;simp only [Option.bind_some] at hd;have ho:=r.at_ p i o hx;rcases Nat.lt_trichotomy q p with h|h|h
 ·obtain ⟨_,_,h3⟩:=r.ord q p _ _ h hy hx;rcases h3 with h3|h3
  ·rw [I.ready ho he h3];simp [h]
  ·rw [vw (y:=(i,o)) hd ht] at h3;cases h3
 ·subst h;rw [hx] at hy;have:l[q]=(i,o):=by simpa using hy.symm
  rw [this];simp [hnl]
 ·obtain ⟨_,_,h3⟩:=r.ord p q _ _ h hx hy;rcases h3 with h3|h3
  ·cases hl:listed.getD l[q].1 false with
   |false=>simp;omega
   |true=>rw [I.before r hl h3] at hnl;cases hnl
  ·rw [clash_left (x:=(i,o)) hd ht] at h3;cases h3
def Inv.names (r:uy P C ops l E H V R) (I:Inv D P ops l E H V R μ0 w0 listed m G μ a w) (hx:l[p]? = some (i,o)) (hnl:listed.getD i false=false) (he:jc o listed) {t:Tmp} (ht:t∈jC ops o) :
  (envS l V (xsOf l listed) (E 0) l.length)[t]? = (E p)[t]? := by
 have hp:=FE (r.lt hx);rw [uf r.tra rfl p hp,<-sU (x:=fun q=>decide (q<p)) l.length hp (fun _=>rfl)];exact lT _ (I.writers r hx hnl he ht)
def Inv.listing (r:uy P C ops l E H V R) (I:Inv D P ops l E H V R μ0 w0 listed m G μ a w) (hx:l[p]? = some (i,o)) (hnl:listed.getD i false=false) (he:jc o listed) :
  envS l V (xsOf l (listed.setIfInBounds i true)) (E 0) l.length=putD (envS l V (xsOf l listed) (E 0) l.length) o.dst (V p):=by
 have ho:=r.at_ p i o hx;have hi:i<ops.size:=(DT.1 ho).1;have hp:=r.lt hx;have hself:xsOf l (listed.setIfInBounds i true) p=true:=by
  unfold xsOf;rw [hx];have:i<listed.size:=by rw [I.size];exact hi
  simp [this]
 have hother : ∀ q,q≠p->xsOf l (listed.setIfInBounds i true) q=xsOf l listed q:=by
  intro q hq;unfold xsOf;cases hy:l[q]? with
  |none=>rfl
  |some y=>
   have hne:i≠y.1:=by
    rcases Nat.lt_or_gt_of_ne hq with h|h
    ·exact (r.ord q p _ _ h hy hx).1.symm
    ·exact (r.ord p q _ _ h hx hy).1
   exact getD_set_ne false hne
 apply FC;intro t;by_cases hd:o.dst=some t
 ·have ht:t∈jC ops o:=by unfold jC;rw [hd];simp
  have h1:(envS l V (xsOf l (listed.setIfInBounds i true)) (E 0) l.length)[t]? = (E (p+1))[t]? := by
   rw [uf r.tra rfl (p+1) hp,<-sU (x:=fun q=>decide (q<p+1)) l.length hp (fun _=>rfl)];refine lT _ fun q hq hdq => ?_;by_cases e:q=p
   ·subst e;rw [hself];simp
   ·rw [hother q e,I.writers r hx hnl he ht q hq hdq];simp only [GH];omega
  rw [h1,(r.tra.step p _ hx).2.1];simp only [hd,putD];rw [FU,FU,DH rfl,DH rfl,uf r.tra rfl p (FE hp),iR,iR]
 ·have h1:(putD (envS l V (xsOf l listed) (E 0) l.length) o.dst (V p))[t]? = (envS l V (xsOf l listed) (E 0) l.length)[t]? := by
   cases hz:o.dst with
   |none=>rfl
   |some u=>
    have:u≠t:=by rintro rfl;exact hd hz
    simp only [putD];rw [IV this]
  rw [h1];refine lT _ fun q hq hdq=>hother q ?_;rintro rfl;rw [hx] at hdq;exact hd (by simpa using hdq)
def Inv.operands (r:uy P C ops l E H V R) (I:Inv D P ops l E H V R μ0 w0 listed m G μ a w) (hx:l[p]? = some (i,o)) (hnl:listed.getD i false=false) (he:jc o listed) (hg:P.globals.size<=(H 0).n0) :
  ∀ x∈o.op.operands.toList,aF μ (ev (E p) x) (a.eval x):=by
 intro x hm;have ho:=r.at_ p i o hx;have hok:=DQ.1 (r.ok o (by rw [GK];exact G8 ho)) x hm;have hv:=CO I.sim (by rw [I.gn0];exact hg) I.env hok;have he':ev (E p) x=ev (envS l V (xsOf l listed) (E 0) l.length) x:=by
  cases x with
  |tmp t=>
   have ht:t∈jC ops o:=by unfold jC yh;simp only [D8,List.mem_filterMap];exact .inl (.inr ⟨.tmp t,hm,rfl⟩)
   simp only [ev,DK,I.names r hx hnl he ht]
  |_=>rfl
 rw [he'];exact hv
def Inv.wanted (r:uy P C ops l E H V R) (I:Inv D P ops l E H V R μ0 w0 listed m G μ a w) (hx:l[p]? = some (i,o)) (hnl:listed.getD i false=false) (he:jc o listed) :
  Region.wanted o (yielded ops a.tmps)=R p:=by
 rw [<-want_rel I.env,(r.tra.step p _ hx).1];unfold ki;cases hgd:o.guard with
 |none=>rfl
 |some g=>
  obtain ⟨j,b⟩:=g;simp only
  congr 1
  unfold iW;cases hd:(ops[j]?).bind (·.dst) with
  |none=>rfl
  |some t=>
   have ht:t∈jC ops o:=by unfold jC guardTmp;rw [hgd];simp [hd]
   simp only [Option.bind_some,I.names r hx hnl he ht]
def Inv.run (r:uy P C ops l E H V R) (I:Inv D P ops l E H V R μ0 w0 listed m G μ a w) (hx:l[p]? = some (i,o)) (hnl:listed.getD i false=false) (he:jc o listed) (hg:P.globals.size<=(H 0).n0)
  {hs h1:ae} (hsub:Sub hs G) (hbd:kindOf P o = .eff->(∀ x∈o.op.operands.toList,b9 hs.next (ev (E p) x)=true)/\aE hs) (hop:opA P C o (ev (E p)) hs=some (V p,h1)) (hfree:fi μ hs h1) (hlo:(H 0).next<=hs.next) (hhi:h1.next<=G.next)
  {K:Act->World->Prop} {Q:Exit->Act->World->Prop}
  (hK : ∀ μ1 v' w1 G',cD μ1 G' w1->ct μ0 (H 0) w0 μ1 G' w1->aF μ1 (V p) v'->jU D μ1 (envS l V (xsOf l (listed.setIfInBounds i true)) (E 0) l.length) (a.put o.dst v')->G'.n0=G.n0->G'.old=G.old->G'.next=G.next ->
   (∀ b k,G.n0<=b->h1.getB b=some k->G'.getB b=some k)->(∀ b k,G.n0<=b->G.getB b=some k->hs.getB b=none->(b<hs.next\/h1.next<=b)->h1.getB b=none->G'.getB b=some k) ->
   (∀ b,b<hs.next\/h1.next<=b->μ1 b=μ b)->K (a.put o.dst v') w1):o.wpIn (Fr ro) nd P a w K Q:=by
 refine AS r.hC (I.sim.sub hsub) hfree (I.operands r hx hnl he hg) (by rw [hsub.1,I.gn0];exact hg) (fun c f h1 h2=>hbd (by unfold kindOf;rw [h1];simp only;rw [h2])) hop _ _ K Q ?_;intro μ1 v' w1 hS hSt hv;obtain ⟨g1,g2,g3,g4⟩:=mu G.n0 G.old (fun b=>match h1.getB b with
  |some k=>some k
  |none=>if (hs.getB b).isSome\/(hs.next<=b/\b<h1.next) then none else G.getB b) (G.next-G.n0)
 have hnn:G.n0+(G.next-G.n0)=G.next:=by have:=G.n0_le_next;omega
 rw [hnn] at g3 g4;generalize heapOf G.n0 G.old (fun b=>match h1.getB b with
  |some k=>some k
  |none=>if (hs.getB b).isSome\/(hs.next<=b/\b<h1.next) then none else G.getB b) (G.next-G.n0)=G' at g1 g2 g3 g4
 have fr:Framed G hs h1 G':=by
  refine ⟨g1,g2,fun b k hb hgb => ?_⟩;rw [g4 b (g1▸hb)] at hgb;split at hgb
  ·split at hgb
   ·rename_i k' hk';cases hgb;exact .inl hk'
   ·split at hgb
    ·cases hgb
    ·rename_i hc;simp only [not_or,not_and,IW] at hc;refine .inr ⟨hgb,?_,?_⟩
     ·cases hq:hs.getB b with
      |none=>rfl
      |some _=>exact absurd (by rw [hq];rfl) hc.1
     ·rcases FH b hs.next with h|h
      ·exact .inl h
      ·exact .inr (hc.2 h)
  ·cases hgb
 have hS':=I.sim.frame hsub hSt hS hfree fr;have hSt':=I.stp.frame hsub hSt fr g3 hlo hhi;refine hK μ1 v' w1 G' hS' hSt' hv ?_ g1 g2 g3 ?_ ?_ hSt.ext
 ·rw [I.listing r hx hnl he];exact (I.env.mono (hSt.mono hfree)).put o.dst hv
 ·intro b k hb hgb;rw [g4 b hb,DH (EX (h1.lt_of_getB hgb) hhi),hgb]
 ·intro b k hb hgb hn hr h1n;rw [g4 b hb,DH (G.lt_of_getB hgb),h1n];rw [DL ?_]
  ·exact hgb
  ·rintro (h|h)
   ·rw [hn] at h;cases h
   ·omega
def gu {listed:Array Bool} {i j:Nat} (hi:i<listed.size):(listed.setIfInBounds i true).getD j false=true↔j=i\/listed.getD j false=true:=by
 by_cases e:i=j
 ·subst e;simp [hi]
 ·rw [getD_set_ne false e];constructor
  ·intro h;exact .inr h
  ·rintro (h|h)
   ·exact absurd h.symm e
   ·exact h
def Inv.closed' (r:uy P C ops l E H V R) (I:Inv D P ops l E H V R μ0 w0 listed m G μ a w) (hx:l[p]? = some (i,o)) (he:jc o listed) :
  ∀ (j:Nat) (u:Oper),(listed.setIfInBounds i true).getD j false=true->ops[j]? = some u -> ∀ e∈u.after.toList,Region.binds .any e=true->(listed.setIfInBounds i true).getD e.on false=true:=by
 have ho:=r.at_ p i o hx;have hi:i<listed.size:=by rw [I.size];exact (DT.1 ho).1
 intro j u hj hu e hm hb;rw [gu hi] at hj |-;rcases hj with rfl|hj
 ·rw [ho] at hu;cases hu;exact .inr (he e hm hb)
 ·exact .inr (I.closed j u hj hu e hm hb)
end inv
end
end Go.Abs
