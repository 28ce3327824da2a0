/-
  A part of the proof, shortened by a program.
  Conditions: as each theorem states.
-/
import Derived.Test.YtdhpgacmgebjdaaGreatDoorG2
import Derived.RangeFuncNested
set_option linter.all false
namespace Go.Abs
noncomputable section
def fF.Cs:fF->Bool
 | .loop .. => true
 |_=>false
def pC.loop_of {μ:Mu} {o:fF} {r:Loop} (h:pC μ o (.loop r)):o.Cs=true:=by cases o<;>first|rfl|exact h.elim
def pC.is_loop {μ:Mu} {o:fF} {ob:Obj} (h:pC μ o ob) (hl:o.Cs=true) : ∃ r,ob = .loop r:=by
 cases o with
 |loop _ _ _ _ _ _=>
  cases ob with
  |loop r=>exact ⟨r,rfl⟩
  |_=>exact h.elim
 |_=>cases hl
def cD.setO {μ:Mu} {h:ae} {w:World} (s:cD μ h w) {b:Nat} {o o':fF} {L:Loc} {ob':Obj} (hg:h.getB b=some (.obj o)) (hL:μ b=some L) (hr:pC μ o' ob') (hlp:o'.Cs=o.Cs:=by rfl) :
  cD μ (h.setO b o') (w.putObj L.blk ob')/\ct μ h w μ (h.setO b o') (w.putObj L.blk ob'):=by
 have hb:=h.bS hg;have hlt:=h.lt_of_getB hg;obtain ⟨L1,ob,g1,g2,g3,g4,g5⟩:=s.obj b o hb hg;rw [hL] at g1;cases g1;have hin:L.blk<w.heap.size:=(DT.1 g2).1;have fix : ∀ d kd,(h.setO b o').getB d=some kd -> ∃ kd',h.getB d=some kd':=by
  intro d kd hd;by_cases e:d=b
  ·subst e;exact ⟨_,hg⟩
  ·rw [ae.fK hb hlt _ e] at hd;exact ⟨kd,hd⟩
 refine ⟨⟨?_,?_,?_,?_,?_,s.low⟩,⟨fun _ _=>rfl,rfl,rfl,DG _,rfl,rfl,rfl,by simp,?_,?_,?_,DG _⟩⟩
 ·intro c cs hc hcs;obtain ⟨L',a,T,f,h1,h2,h3,h4,h5⟩:=s.old c cs hc hcs;refine ⟨L',a,T,f,h1,h2,h3,?_,h5⟩;have hc':c<h.n0:=hc;rw [World.putObj_heap_other (by omega)];exact h4
 ·intro c k hc hgc;rw [ae.get_setO hg] at hgc;have e:c≠b:=by rintro rfl;rw [h.rX hg] at hgc;cases hgc
  obtain ⟨L',a,T,f,h1,h2,h4,h5⟩:=s.new c k hc hgc;exact ⟨L',a,T,f,h1,h2,by rw [World.putObj_heap_other (s.inj c b _ _ L' L hc hb e (h.aJ hgc) hg h1 hL)];exact h4,h5⟩
 ·intro c oc hc hgc;by_cases e:c=b
  ·subst e;rw [ae.fh hb hg] at hgc;cases hgc;exact ⟨L,ob',hL,World.putObj_heap_same hin,hr,g4,g5⟩
  ·rw [ae.fK hb hlt _ e] at hgc;obtain ⟨L',ob1,h1,h2,h3⟩:=s.obj c oc hc hgc;exact ⟨L',ob1,h1,by rw [World.putObj_heap_other (s.inj c b _ _ L' L hc hb e hgc hg h1 hL)];exact h2,h3⟩
 ·intro c c' k k' Lc Lc' hc hc' hne h1 h2 h3 h4;obtain ⟨k1,h5⟩:=fix _ _ h1;obtain ⟨k2,h6⟩:=fix _ _ h2;exact s.inj c c' k1 k2 Lc Lc' hc hc' hne h5 h6 h3 h4
 ·simpa using s.size
 ·intro B hB hO;exact World.putObj_heap_other (fun e=>hO ⟨b,_,L,hb,hg,hL,e.symm⟩)
 ·rintro B ⟨c,kc,Lc,hc,hgc,hm,rfl⟩;obtain ⟨k1,h5⟩:=fix _ _ hgc;exact .inl ⟨c,k1,Lc,hc,h5,hm,rfl⟩
 ·intro B r hB;by_cases e:B=L.blk
  ·subst e;rw [hB] at g2;cases g2;obtain ⟨r',hr'⟩:=hr.is_loop (hlp.trans g3.loop_of);exact ⟨r',by rw [<-hr'];exact World.putObj_heap_same hin⟩
  ·exact ⟨r,by rw [World.putObj_heap_other e];exact hB⟩
def cD.allocO {μ:Mu} {h:ae} {w:World} (s:cD μ h w) {o:fF} (hf:fi μ h (h.ba (.obj o))) {ob:Obj} {w1:World} {B:Nat} (ho:w1.os=w.os) (ht:w1.tape=w.tape) (hp:w1.output=w.output)
  (hB:w.heap.size<=B) (hsz:w1.heap.size=B+1) (hold : ∀ C,C<w.heap.size->w1.heap[C]? = w.heap[C]?) (hnew:w1.heap[B]? = some ob) (hx:pC (μ.put h.next ⟨B,0,0,0⟩) o ob) (hdr:w.drawn<=w1.drawn:=by first|exact DG _|exact HH _) :
  cD (μ.put h.next ⟨B,0,0,0⟩) (h.ba (.obj o)) w1/\ct μ h w (μ.put h.next ⟨B,0,0,0⟩) (h.ba (.obj o)) w1:=by
 have hnone:μ h.next=none:=hf _ (DG _) (by simp);have hm:=Mu.np (L:=⟨B,0,0,0⟩) hnone;have blt : ∀ (C:Nat) (o:Obj),w.heap[C]? = some o->C<w.heap.size:=fun C o hC=>(DT.1 hC).1;have hn0:=h.n0_le_next;refine ⟨⟨?_,?_,?_,?_,?_,fun b hb=>by obtain ⟨L,h1,h2⟩:=s.low b hb;exact ⟨L,hm _ _ h1,h2⟩⟩,⟨?_,rfl,rfl,by simp,ho,ht,hp,by rw [hsz];omega,fun C hC _=>hold C hC,?_,fun C r hC=>⟨r,by rw [hold _ (blt _ _ hC)];exact hC⟩,hdr⟩⟩
 ·intro b cs hb hcs;obtain ⟨L,a,T',f',g1,g2,g3,g4,g5⟩:=s.old b cs hb hcs;exact ⟨L,a,T',f',hm _ _ g1,g2,g3,by rw [hold _ (blt _ _ g4)];exact g4,g5.mono hm⟩
 ·intro b kb hb hg;have hg:=(h.ba _).aJ hg;rw [h.bK] at hg;by_cases e:b=h.next
  ·rw [DH e] at hg;cases hg
  ·rw [DL e] at hg;obtain ⟨L,a,T',f',g1,g2,g4,g5,g6,g7,g8,g9⟩:=s.new b kb hb (h.get_of_getB hg);exact ⟨L,a,T',f',hm _ _ g1,g2,by rw [hold _ (blt _ _ g4)];exact g4,g5,g6,g7,g8,g9.mono hm⟩
 ·intro b o' hb hg;rw [h.bK] at hg;by_cases e:b=h.next
  ·subst e;rw [DH rfl] at hg;cases hg;refine ⟨_,ob,Mu.cI _ _ _,hnew,hx,?_,rfl⟩;have:=s.size;simp only [ae.uR];omega
  ·rw [DL e] at hg;obtain ⟨L,ob,g1,g2,g3,g4⟩:=s.obj b o' hb hg;exact ⟨L,ob,hm _ _ g1,by rw [hold _ (blt _ _ g2)];exact g2,g3.mono hm,g4⟩
 ·intro b b' kb kb' L L' hb hb' hne hg hg' h1 h2;rw [h.bK] at hg hg';by_cases e:b=h.next
  ·subst e;rw [Mu.cI] at h1;cases h1;rw [DL (Ne.symm hne)] at hg';rw [Mu.cW _ _ (Ne.symm hne)] at h2;obtain ⟨L2,ob,g1,g4,_⟩:=s.place hb' hg';rw [g1] at h2;cases h2;have:=blt _ _ g4;simp only [ne_eq];omega
  ·rw [DL e] at hg;rw [Mu.cW _ _ e] at h1;by_cases e':b'=h.next
   ·subst e';rw [Mu.cI] at h2;cases h2;obtain ⟨L2,ob,g1,g4,_⟩:=s.place hb hg;rw [g1] at h1;cases h1;have:=blt _ _ g4;simp only [ne_eq];omega
   ·rw [DL e'] at hg';rw [Mu.cW _ _ e'] at h2;exact s.inj b b' kb kb' L L' hb hb' hne hg hg' h1 h2
 ·have:=s.size;simp only [ae.uR];omega
 ·intro b hb;rw [Mu.cW _ _ (by simp at hb;omega)]
 ·rintro C ⟨b,kb,L,hb,hg,h1,rfl⟩;rw [h.bK] at hg;by_cases e:b=h.next
  ·subst e;rw [Mu.cI] at h1;cases h1;exact .inr hB
  ·rw [DL e] at hg;rw [Mu.cW _ _ e] at h1;exact .inl ⟨b,kb,L,hb,hg,h1,rfl⟩
def gI (w:World) (o:Obj) (k:Nat) (h:k<w.heap.size):(w.alloc o).heap[k]? = w.heap[k]? := by show (w.heap.push o)[k]? = _;rw [IH,DL (by omega)]
section ops
variable {P:Program} {μ:Mu} {h:ae} {w:World}
def gW {t kt et:TypeId} (e:mapT P t=some (kt,et)):P.underlying t=some (.map kt et):=by
 unfold mapT at e;split at e
 ·cases e;assumption
 ·cases e
def aF.mi {b:Nat} {x:Vl} (hx:aF μ (.map (some b)) x) : ∃ L,μ b=some L/\x = .map (some L.blk):=by
 cases hx with
 |flat h=>simp [Abs.flat] at h
 |map h=>exact ⟨_,h,rfl⟩
def cD.map (s:cD μ h w) {b:Nat} {es:List (Vl×Vl×Nat)} {clock:Nat} {L:Loc} (hg:h.getB b=some (.obj (.map es clock))) (hL:μ b=some L) :
  ∃ es',w.heap[L.blk]? = some (.map es' clock)/\es.length=es'.size /\ ∀ (i:Nat) (x:Vl×Vl×Nat) (e:MapEntry),es[i]? = some x->es'[i]? = some e->aF μ x.1 e.key/\aF μ x.2.1 e.val/\x.2.2=e.born:=by
 obtain ⟨L1,ob,g1,g2,g3,g4,g5⟩:=s.obj b _ (h.bS hg) hg;rw [hL] at g1;cases g1;cases ob with
 |map es' c'=>obtain ⟨rfl,h2,h3⟩:=g3;exact ⟨es',g2,h2,h3⟩
 |_=>exact g3.elim
def de {b:Nat} {es:Array MapEntry} {c:Nat} (hw:w.heap[b]? = some (.map es c)):(getObj b).run P w = .ok (.map es c) w:=by show (Sem.getObj b Sem.pure).run P w=_;unfold Sem.run;rw [hw];rfl
def gO {b:Nat} {es:Array MapEntry} {c:Nat} (o:Obj) (hw:w.heap[b]? = some (.map es c)):(setObj b o).run P w = .ok () (w.putObj b o):=by show (Sem.setObj b o (.pure ())).run P w=_;unfold Sem.run;rw [hw];rfl
def run_part {t:TypeId} {cs:Array Vl} {off:Nat} {x:Vl} (e:pk P t cs off=some x):(part t cs off).run P w = .ok x w:=by
 unfold pk at e;split at e
 ·rename_i n ha hs;cases e;simp [part,nc w ha,cS w hs]
 ·rename_i n ha hs;simp [part,nc w ha,e]
 ·cases e
def lU {α:Type} {f:α->PUnit->Sem (ForInStep PUnit)} : ∀ (l:List α),(∀ x∈l,(f x PUnit.unit).run P w = .ok (.yield PUnit.unit) w)->(forIn l PUnit.unit f).run P w = .ok PUnit.unit w
 | [],_=>by simp
 |x::l,h=>by simp only [List.forIn_cons,Sem.run_bind,h x (by simp),Result.andThen_ok];exact lU l (fun y hy=>h y (by simp [hy]))
def dS (em:Bool) : ∀ (n:Nat) {t:TypeId} {v:Vl},keyOk P n t v=true->(Instr.checkKey em n t v).run P w = .ok () w
 | 0,t,v,e=>by simp [keyOk] at e
 |n+1,t,v,e=>by
  unfold keyOk at e;rw [Instr.checkKey];cases hu:P.underlying t with
  |none=>rw [hu] at e;simp at e
  |some d=>
   rw [hu] at e;rw [Sem.run_bind,run_underlying hu,Result.andThen_ok];cases d with
   |interface ms=>cases v<;>simp at e
   |array len el=>
    cases v with
    |agg cs=>
     simp only at e;split at e
     ·rename_i z hz;simp only [Std.Legacy.Range.forIn_eq_forIn_range',Std.Legacy.Range.size,Nat.sub_zero,Nat.add_one_sub_one,Nat.div_one];rw [IT,DQ] at e;rw [Sem.run_bind,lU _ (fun j hj => ?_)]
      ·rfl
      ·have hj:=e j hj;split at hj
       ·rename_i x hx;simp only [Sem.run_bind,cS w hz,Result.andThen_ok,run_part hx,dS em n hj,Sem.run_pure]
       ·cases hj
     ·cases e
    |_=>simp at e
   |struct fs=>
    cases v with
    |agg cs=>
     simp only at e;simp only [<-Array.forIn_toList];rw [DQ] at e;rw [Sem.run_bind,lU _ (fun f hf => ?_)]
     ·rfl
     ·have hj:=e f hf;split at hj
      ·rename_i x hx;simp only [Sem.run_bind,Sem.run_ite];split
       ·simp only [Result.andThen_ok,run_part hx,dS em n hj,Sem.run_pure]
       ·simp only [Sem.run_pure]
      ·cases hj
    |_=>simp at e
   |_=>cases v<;>rfl
def sameNow_run {d:TypeDesc} {t:TypeId} {x y:Vl} {b:Bool} (hu:P.underlying t=some d) (e:Instr.sameNow d x y=some b):(Op.equal t x y).run P w = .ok b w:=by
 unfold Op.equal Op.maxDepth;rw [Op.equalIn];simp only [Sem.run_bind,run_underlying hu,Result.andThen_ok];unfold Instr.sameNow at e;split at e
 ·split at e
  ·rename_i h;cases e;simp [h]
  ·cases e
 ·cases e;rfl
 ·cases e;rfl
 ·cases e
def mC (μ:Mu) (r:Option (Nat×Vl)) (r':Option (Nat×Vl)):Prop:=(r=none/\r'=none) \/ ∃ i v v',r=some (i,v)/\r'=some (i,v')/\aF μ v v'
def tH {t:TypeId} {x y:Vl} {b:Bool} (e:eqA P t x y=some b):ground x=true/\ground y=true/\(Op.equal t x y).run P w = .ok b w:=by
 unfold eqA at e;split at e
 ·rename_i h;simp only [DD] at h;exact ⟨h.1,h.2,rF _ e w⟩
 ·cases e
def vE {d:TypeDesc} {t:TypeId} (hu:P.underlying t=some d) {k:Vl} : ∀ {es:List (Vl×Vl×Nat)} {es':List MapEntry} {i:Nat} {r r':Option (Nat×Vl)},
  es.length=es'.length->(∀ (i:Nat) (x:Vl×Vl×Nat) (e:MapEntry),es[i]? = some x->es'[i]? = some e->aF μ x.1 e.key/\aF μ x.2.1 e.val/\x.2.2=e.born) ->
  findA P t k es i=some r->Instr.findNow d k es' i=some r'->mC μ r r'
 | [],[],i,r,r',_,_,h1,h2=>by simp only [findA,DA] at h1;simp only [Instr.findNow,DA] at h2;exact .inl ⟨h1.symm,h2.symm⟩
 | [],_::_,_,_,_,h,_,_,_=>by simp at h
 |_::_,[],_,_,_,h,_,_,_=>by simp at h
 |x::es,e::es',i,r,r',hl,hr,h1,h2=>by
  obtain ⟨a1,a2,a3⟩:=hr 0 x e rfl rfl;unfold findA at h1;unfold Instr.findNow at h2;have cmp : ∀ {b b':Bool},eqA P t k x.1=some b->Instr.sameNow d k e.key=some b'->b=b':=by intro b b' q1 q2;obtain ⟨_,g2,g3⟩:=tH (w:=default) q1;have g4:=sameNow_run (w:=default) hu q2;rw [a1.fu g2,g3] at g4;cases g4;rfl
  split at h1
  ·rename_i q1;cases h1;split at h2
   ·cases h2;exact .inr ⟨_,_,_,rfl,rfl,a2⟩
   ·rename_i q2;cases cmp q1 q2
   ·cases h2
  ·rename_i q1;split at h2
   ·rename_i q2;cases cmp q1 q2
   ·exact vE hu (by simpa using hl) (fun j x e hx he=>hr (j+1) x e hx he) h1 h2
   ·cases h2
  ·cases h1
def pq {t:TypeId} {k:Vl} : ∀ {es:List (Vl×Vl×Nat)} {es':List MapEntry} {i:Nat} {r:Option (Nat×Vl)},
  es.length=es'.length->(∀ (i:Nat) (x:Vl×Vl×Nat) (e:MapEntry),es[i]? = some x->es'[i]? = some e->aF μ x.1 e.key/\aF μ x.2.1 e.val/\x.2.2=e.born) ->
  findA P t k es i=some r -> ∃ r',(Instr.findAsking t k es' i).run P w = .ok r' w/\mC μ r r'
 | [],[],i,r,_,_,h1=>by simp only [findA,DA] at h1;exact ⟨none,rfl,.inl ⟨h1.symm,rfl⟩⟩
 | [],_::_,_,_,h,_,_=>by simp at h
 |_::_,[],_,_,h,_,_=>by simp at h
 |x::es,e::es',i,r,hl,hr,h1=>by
  obtain ⟨a1,a2,a3⟩:=hr 0 x e rfl rfl;unfold findA at h1;rw [Instr.findAsking];split at h1
  ·rename_i q1;cases h1;obtain ⟨_,g2,g3⟩:=tH (w:=w) q1;rw [a1.fu g2];simp only [Sem.run_bind,g3,Result.andThen_ok,DV,Sem.run_pure];exact ⟨_,rfl,.inr ⟨_,_,_,rfl,rfl,a2⟩⟩
  ·rename_i q1;obtain ⟨_,g2,g3⟩:=tH (w:=w) q1;rw [a1.fu g2];simp only [Sem.run_bind,g3,Result.andThen_ok,DB,DS];exact pq (by simpa using hl) (fun j x e hx he=>hr (j+1) x e hx he) h1
  ·cases h1
def mC.none {μ:Mu} {r':Option (Nat×Vl)} (h:mC μ none r'):r'=none:=by
 rcases h with ⟨_,h⟩|⟨_,_,_,h,_⟩
 ·exact h
 ·cases h
def mC.some {μ:Mu} {i:Nat} {v:Vl} {r':Option (Nat×Vl)} (h:mC μ (some (i,v)) r') : ∃ v',r'=some (i,v')/\aF μ v v':=by
 rcases h with ⟨h,_⟩|⟨i',v1,v',h,h2,h3⟩
 ·cases h
 ·cases h;exact ⟨v',h2,h3⟩
def fw {t:TypeId} {k:Vl} {es:List (Vl×Vl×Nat)} {es':Array MapEntry} {r:Option (Nat×Vl)} {d:TypeDesc} (hu:P.underlying t=some d)
  (hl:es.length=es'.size) (hr : ∀ (i:Nat) (x:Vl×Vl×Nat) (e:MapEntry),es[i]? = some x->es'[i]? = some e->aF μ x.1 e.key/\aF μ x.2.1 e.val/\x.2.2=e.born)
  (h1:findA P t k es 0=some r) : ∃ r',(Instr.findKey t k es'.toList).run P w = .ok r' w/\mC μ r r':=by
 have hr' : ∀ (i:Nat) (x:Vl×Vl×Nat) (e:MapEntry),es[i]? = some x->es'.toList[i]? = some e->aF μ x.1 e.key/\aF μ x.2.1 e.val/\x.2.2=e.born:=fun i x e hx he=>hr i x e hx (by simpa using he);unfold Instr.findKey;simp only [Sem.run_bind,run_underlying hu,Result.andThen_ok];cases hn:Instr.findNow d k es'.toList 0 with
 |some r'=>exact ⟨r',rfl,vE hu (by simpa using hl) hr' h1 hn⟩
 |none=>exact pq (by simpa using hl) hr' h1
def qO {n:Nat} {t:TypeId} {v:Vl} (e:keyOk P n t v=true) : ∃ d,P.underlying t=some d:=by
 cases n with
 |zero=>simp [keyOk] at e
 |succ n=>
  unfold keyOk at e;cases hu:P.underlying t with
  |none=>rw [hu] at e;simp at e
  |some d=>exact ⟨d,rfl⟩
def jX (μ:Mu) (es:List (Vl×Vl×Nat)) (es':Array MapEntry):Prop:=
 es.length=es'.size /\ ∀ (i:Nat) (x:Vl×Vl×Nat) (e:MapEntry),es[i]? = some x->es'[i]? = some e->aF μ x.1 e.key/\aF μ x.2.1 e.val/\x.2.2=e.born
def jX.get {es:List (Vl×Vl×Nat)} {es':Array MapEntry} (h:jX μ es es') {i:Nat} {x:Vl×Vl×Nat} (hx:es[i]? = some x) : ∃ e,es'[i]? = some e/\aF μ x.1 e.key/\aF μ x.2.1 e.val/\x.2.2=e.born:=by
 have hi:i<es'.size:=by rw [<-h.1];exact (DZ.1 hx).1
 exact ⟨es'[i],G7 hi,h.2 i x _ hx (G7 hi)⟩
def jX.push {es:List (Vl×Vl×Nat)} {es':Array MapEntry} (h:jX μ es es') {x:Vl×Vl×Nat} {e:MapEntry} (h1:aF μ x.1 e.key) (h2:aF μ x.2.1 e.val) (h3:x.2.2=e.born):jX μ (es ++ [x]) (es'.push e):=by
 refine ⟨by simp [h.1],fun i y f hy hf => ?_⟩;rw [IH] at hf;by_cases hi:i=es'.size
 ·rw [DH hi] at hf;cases hf;rw [hi,<-h.1] at hy;simp at hy;subst hy;exact ⟨h1,h2,h3⟩
 ·rw [DL hi] at hf;have hlt:i<es'.size:=(DT.1 hf).1;rw [EI (by rw [h.1];exact hlt)] at hy;exact h.2 i y f hy hf
def jX.modify {es:List (Vl×Vl×Nat)} {es':Array MapEntry} (h:jX μ es es') {i:Nat} {x:Vl×Vl×Nat} {g:MapEntry->MapEntry} (hg : ∀ e,es'[i]? = some e->aF μ x.1 (g e).key/\aF μ x.2.1 (g e).val/\x.2.2=(g e).born):jX μ (es.set i x) (es'.modify i g):=by
 refine ⟨by simp [h.1],fun j y f hy hf => ?_⟩;rw [IS] at hf;rw [FU] at hy;by_cases e:i=j
 ·subst e;rw [DH rfl] at hy hf;simp only [DJ] at hf;obtain ⟨e,he,rfl⟩:=hf;split at hy
  ·cases hy;exact hg e he
  ·cases hy
 ·rw [DL e] at hy hf;exact h.2 j y f hy hf
def cD.mapE (s:cD μ h w) {b:Nat} {es:List (Vl×Vl×Nat)} {clock:Nat} {L:Loc} (hg:h.getB b=some (.obj (.map es clock))) (hL:μ b=some L) :
  ∃ es',w.heap[L.blk]? = some (.map es' clock)/\jX μ es es':=s.map hg hL
def By {t:TypeId} {x x' k k' v:Vl} {ok:Bool} {h':ae} (S:cD μ h w) (hx:aF μ x x') (hk:aF μ k k') (e:lookupA P t x k ok h=some (v,h')) :
  h'=h /\ ∃ v',(Instr.lookup t x' k' ok).run P w = .ok v' w/\aF μ v v':=by
 unfold lookupA at e;split at e
 ·rename_i kt et es hmt hes;have hu:=gW hmt;split at e
  ·rename_i hc;simp only [DD] at hc;have hk':=hk.fu hc.2;subst hk';obtain ⟨d,hd⟩:=qO hc.1;have hent:(x = .map none/\es = []/\x' = .map none) \/ ∃ b es' clock,x' = .map (some b)/\jX μ es es'/\w.heap[b]? = some (.map es' clock):=by
    unfold entriesA at hes;split at hes
    ·cases hes;exact .inl ⟨rfl,rfl,hx.bG rfl⟩
    ·split at hes
     ·rename_i b es1 clock hg;cases hes;obtain ⟨L,hL,rfl⟩:=hx.mi;obtain ⟨es',h1,h2⟩:=S.mapE hg hL;exact .inr ⟨_,es',clock,rfl,h2,h1⟩
     ·cases hes
    ·cases hes
   have main : ∀ {r:Option (Nat×Vl)},findA P kt k' es 0=some r -> ∃ r',mC μ r r' /\ ∀ z,jr P et=some z->(Instr.lookup t x' k' ok).run P w = .ok (let p:=match r' with|some (_,v)=>(v,true)|none=>(z,false);if ok then .tuple #[p.1,.bool p.2] else p.1) w:=by
    intro r hf;rcases hent with ⟨rfl,rfl,rfl⟩|⟨b,es',clock,rfl,hrel,hw⟩
    ·obtain ⟨r',hf',hrr⟩:=fw (μ:=μ) (es' := #[]) (w:=w) hd rfl (by simp) hf;refine ⟨r',hrr,fun z hz => ?_⟩;cases r' with
     |some p=>simp [Instr.lookup,run_underlying hu,dS _ _ hc.1,hf']
     |none=>simp [Instr.lookup,run_underlying hu,dS _ _ hc.1,hf',fP w hz]
    ·obtain ⟨r',hf',hrr⟩:=fw (w:=w) hd hrel.1 hrel.2 hf;refine ⟨r',hrr,fun z hz => ?_⟩;cases r' with
     |some p=>simp [Instr.lookup,run_underlying hu,de hw,dS _ _ hc.1,hf']
     |none=>simp [Instr.lookup,run_underlying hu,de hw,dS _ _ hc.1,hf',fP w hz]
   split at e
   ·rename_i i v1 z hf hz;obtain ⟨r',hrr,hr2⟩:=main hf;obtain ⟨v',rfl,hv⟩:=hrr.some;cases e;refine ⟨rfl,_,hr2 _ hz,?_⟩;cases ok with
    |true=>exact .cU (aT.cons hv (aT.cons (.flat rfl) (aT.nil μ)))
    |false=>exact hv
   ·rename_i z hf hz;obtain ⟨r',hrr,hr2⟩:=main hf;have:=hrr.none;subst this;split at e
    ·rename_i hgz;cases e;have hzz:aF μ z z:=by
      cases z with
      |agg cs=>
       obtain ⟨l⟩:=cs;exact .gD (aT.gQ (by simpa [ground] using hgz))
      |_=>exact .flat (by simpa [ground] using hgz)
     refine ⟨rfl,_,hr2 _ hz,?_⟩;cases ok with
     |true=>exact .cU (aT.cons hzz (aT.cons (.flat rfl) (aT.nil μ)))
     |false=>exact hzz
    ·cases e
   ·cases e
  ·cases e
 ·cases e
def yT {z:Vl} (hgz:ground z=true):aF μ z z:=by
 cases z with
 |agg cs=>
  obtain ⟨l⟩:=cs;exact .gD (aT.gQ (by simpa [ground] using hgz))
 |_=>exact .flat (by simpa [ground] using hgz)
def AA {old new:Vl} (hs:Instr.sameBits 10000 old new=true):(Instr.keyThatStays old new).run P w = .ok new w:=by unfold Instr.keyThatStays;rw [DH hs];rfl
def oP {t:TypeId} {m m' k k' x x' v:Vl} {h':ae} (S:cD μ h w) (hm:aF μ m m') (hk:aF μ k k') (hx:aF μ x x') (e:mapUpdateA P t m k x h=some (v,h')) :
  v=undef /\ ∃ w',(Instr.mapUpdate t m' k' x').run P w = .ok () w'/\cD μ h' w'/\ct μ h w μ h' w':=by
 unfold mapUpdateA at e;split at e
 ·rename_i kt et b hmt;have hu:=gW hmt;split at e
  ·rename_i es clock hg;obtain ⟨L,hL,rfl⟩:=hm.mi;obtain ⟨es',hw,hrel⟩:=S.mapE hg hL;split at e
   ·rename_i hc;simp only [DD] at hc;have hk':=hk.fu hc.2;subst hk';obtain ⟨d,hd⟩:=qO hc.1;split at e
    ·rename_i i v1 hf;obtain ⟨r',hf',hrr⟩:=fw (w:=w) hd hrel.1 hrel.2 hf;obtain ⟨v',rfl,hv⟩:=hrr.some;split at e
     ·rename_i y hy;split at e
      ·rename_i hs;cases e;obtain ⟨en,he,h1,h2,h3⟩:=hrel.get hy;have hgy:ground y.1=true:=by obtain ⟨_,y2,hy2,_,hq⟩:=na hf;rw [Nat.sub_zero,hy] at hy2;cases hy2;exact (tH (w:=w) hq).2.1
       have hkey:=h1.fu hgy;have hset:jX μ (es.set i (k',x,y.2.2)) (es'.modify i fun e=>{ e with key:=k',val:=x' }):=
        hrel.modify (fun e' he'=>by rw [he] at he';cases he';exact ⟨hk,hx,h3⟩)
       obtain ⟨hS,hSt⟩:=S.setO (o' := .map (es.set i (k',x,y.2.2)) clock) (ob' := .map (es'.modify i fun e=>{ e with key:=k',val:=x' }) clock) hg hL ⟨rfl,hset⟩;refine ⟨rfl,_,?_,hS,hSt⟩;simp [Instr.mapUpdate,run_underlying hu,de hw,dS _ _ hc.1,hf',he,hkey,AA hs,gO _ hw]
      ·cases e
     ·cases e
    ·rename_i hf;obtain ⟨r',hf',hrr⟩:=fw (w:=w) hd hrel.1 hrel.2 hf;have:=hrr.none;subst this;cases e;have hset:jX μ (es ++ [(k',x,clock)]) (es'.push { key:=k',val:=x',born:=clock }):=hrel.push hk hx rfl;obtain ⟨hS,hSt⟩:=S.setO (o' := .map (es ++ [(k',x,clock)]) (clock+1)) (ob' := .map (es'.push { key:=k',val:=x',born:=clock }) (clock+1)) hg hL ⟨rfl,hset⟩;refine ⟨rfl,_,?_,hS,hSt⟩;simp [Instr.mapUpdate,run_underlying hu,de hw,dS _ _ hc.1,hf',gO _ hw]
    ·cases e
   ·cases e
  ·cases e
 ·cases e
def xD {t:TypeId} {m m' k k' v:Vl} {h':ae} (S:cD μ h w) (hm:aF μ m m') (hk:aF μ k k') (e:iO P t m k h=some (v,h')) :
  ∃ μ' v' w',(Instr.mapEntry t m' k').run P w = .ok v' w'/\cD μ' h' w'/\ct μ h w μ' h' w'/\aF μ' v v':=by
 unfold iO at e;split at e
 ·rename_i kt et b hmt;have hu:=gW hmt;split at e
  ·rename_i es clock hg;obtain ⟨L,hL,rfl⟩:=hm.mi;obtain ⟨es',hw,hrel⟩:=S.mapE hg hL;split at e
   ·rename_i hc;simp only [DD] at hc;have hk':=hk.fu hc.2;subst hk';obtain ⟨d,hd⟩:=qO hc.1;split at e
    ·rename_i i v1 hf;obtain ⟨r',hf',hrr⟩:=fw (w:=w) hd hrel.1 hrel.2 hf;obtain ⟨v',rfl,hv⟩:=hrr.some;split at e
     ·rename_i y hy;split at e
      ·rename_i hs;cases e;obtain ⟨en,he,h1,h2,h3⟩:=hrel.get hy;have hgy:ground y.1=true:=by obtain ⟨_,y2,hy2,_,hq⟩:=na hf;rw [Nat.sub_zero,hy] at hy2;cases hy2;exact (tH (w:=w) hq).2.1
       have hkey:=h1.fu hgy;have hset:jX μ (es.set i (k',y.2.1,y.2.2)) (es'.modify i fun e=>{ e with key:=k' }):=
        hrel.modify (fun e' he'=>by rw [he] at he';cases he';exact ⟨hk,h2,h3⟩)
       obtain ⟨hS,hSt⟩:=S.setO (o' := .map (es.set i (k',y.2.1,y.2.2)) clock) (ob' := .map (es'.modify i fun e=>{ e with key:=k' }) clock) hg hL ⟨rfl,hset⟩;refine ⟨μ,.tuple #[v',goInt en.born],_,?_,hS,hSt,?_⟩
       ·simp [Instr.mapEntry,run_underlying hu,de hw,dS _ _ hc.1,hf',he,hkey,AA hs,gO _ hw]
       ·rw [h3];exact .cU (aT.cons hv (aT.cons (.flat rfl) (aT.nil μ)))
      ·cases e
     ·cases e
    ·rename_i hf;obtain ⟨r',hf',hrr⟩:=fw (w:=w) hd hrel.1 hrel.2 hf;have:=hrr.none;subst this;split at e
     ·rename_i z hz;split at e
      ·rename_i hgz;cases e;have hset:jX μ (es ++ [(k',z,clock)]) (es'.push { key:=k',val:=z,born:=clock }):=hrel.push hk (yT hgz) rfl;obtain ⟨hS,hSt⟩:=S.setO (o' := .map (es ++ [(k',z,clock)]) (clock+1)) (ob' := .map (es'.push { key:=k',val:=z,born:=clock }) (clock+1)) hg hL ⟨rfl,hset⟩;refine ⟨μ,.tuple #[z,goInt clock],_,?_,hS,hSt,?_⟩
       ·simp [Instr.mapEntry,run_underlying hu,de hw,dS _ _ hc.1,hf',fP w hz,gO _ hw]
       ·exact .cU (aT.cons (yT hgz) (aT.cons (.flat rfl) (aT.nil μ)))
      ·cases e
     ·cases e
    ·cases e
   ·cases e
  ·cases e
 ·cases e
def vJ {n:Int} : ∀ {es:List (Vl×Vl×Nat)} {es':List MapEntry},es.length=es'.length->(∀ (i:Nat) (x:Vl×Vl×Nat) (e:MapEntry),es[i]? = some x->es'[i]? = some e->x.2.2=e.born) ->
  es'.findIdx? (fun e=>(e.born:Int)==n)=es.findIdx? (fun e=>(e.2.2:Int)==n)
 | [],[],_,_=>rfl
 | [],_::_,h,_=>by simp at h
 |_::_,[],h,_=>by simp at h
 |x::es,e::es',hl,hr=>by have h0:=hr 0 x e rfl rfl;have ih:=vJ (n:=n) (es:=es) (es':=es') (by simpa using hl) (fun i x e hx he=>hr (i+1) x e hx he);simp only [List.findIdx?_cons,ih,h0]
def vc {t:TypeId} {m m' s s' x x' v:Vl} {h':ae} (S:cD μ h w) (hm:aF μ m m') (hs:aF μ s s') (hx:aF μ x x') (e:entryStoreA m s x h=some (v,h')) :
  v=undef /\ ∃ w',(Instr.entryStore t m' s' x').run P w = .ok () w'/\cD μ h' w'/\ct μ h w μ h' w':=by
 unfold entryStoreA at e;split at e
 ·rename_i b q n;split at e
  ·rename_i es clock hg;obtain ⟨L,hL,rfl⟩:=hm.mi;obtain ⟨es',hw,hrel⟩:=S.mapE hg hL;have:=hs.int;subst this;split at e
   ·rename_i i hi;split at e
    ·rename_i y hy;cases e;obtain ⟨en,he,h1,h2,h3⟩:=hrel.get hy;have hi':es'.findIdx? (fun e=>(e.born:Int)==n)=some i:=by rw [<-hi,<-vJ (es:=es) (es':=es'.toList) (by simpa using hrel.1) (fun i x e hx he=>(hrel.2 i x e hx (by simpa using he)).2.2)];obtain ⟨l⟩:=es';simp
     have hset:jX μ (es.set i (y.1,x,y.2.2)) (es'.modify i fun e=>{ e with val:=x' }):=
      hrel.modify (fun e' he'=>by rw [he] at he';cases he';exact ⟨h1,hx,h3⟩)
     obtain ⟨hS,hSt⟩:=S.setO (o' := .map (es.set i (y.1,x,y.2.2)) clock) (ob' := .map (es'.modify i fun e=>{ e with val:=x' }) clock) hg hL ⟨rfl,hset⟩;refine ⟨rfl,_,?_,hS,hSt⟩;simp [Instr.entryStore,de hw,asInt,asIntOf,hi',gO _ hw]
    ·cases e
   ·cases e
  ·cases e
 ·cases e
def zC {t:TypeId} {r r':Option Vl} {v:Vl} {h':ae} (S:cD μ h w) (hf:fi μ h h') (hr:sW μ r r') (e:dX r P t h=some (v,h')) :
  ∃ μ' v' w',(Instr.makeMap t r').run P w = .ok v' w'/\cD μ' h' w'/\ct μ h w μ' h' w'/\aF μ' v v':=by
 have main:h'=h.ba (.obj (.map [] 0))->v = .map (some h.next)->(Instr.makeMap t r').run P w = .ok (.map (some w.heap.size)) (w.alloc (.map #[] 0)) ->
   ∃ μ' v' w',(Instr.makeMap t r').run P w = .ok v' w'/\cD μ' h' w'/\ct μ h w μ' h' w'/\aF μ' v v':=by
  rintro rfl rfl hrun;obtain ⟨hS,hSt⟩:=S.allocO (o := .map [] 0) hf (ob := .map #[] 0) (w1:=w.alloc (.map #[] 0)) (B:=w.heap.size) rfl rfl rfl (DG _) (by simp) (fun C hC=>gI w _ C hC) (World.alloc_heap_new w _) ⟨rfl,rfl,by simp⟩;exact ⟨_,_,_,hrun,hS,hSt,.map (Mu.cI _ _ _)⟩
 unfold dX at e;rcases hr with ⟨rfl,rfl⟩|⟨a,b,rfl,rfl,hab⟩
 ·simp only [DA,DF] at e;exact main e.2.symm e.1.symm (by simp [Instr.makeMap,run_newObj_alloc])
 ·split at e
  ·rename_i hh;cases hh
  ·rename_i q n hh;cases hh;split at e
   ·rename_i hm;obtain ⟨⟨kt,et⟩,hm⟩:=E9.1 hm;have hu:=gW hm;simp only [DA,DF] at e;have:=hab.int;subst this;exact main e.2.symm e.1.symm (by simp [Instr.makeMap,run_underlying hu,asInt,asIntOf,run_newObj_alloc])
   ·cases e
  ·cases e
def range_sound {t:TypeId} {x x' v:Vl} {h':ae} (S:cD μ h w) (hf:fi μ h h') (hx:aF μ x x') (e:rangeA P t x h=some (v,h')) :
  ∃ μ' v' w',(Instr.range t x').run P w = .ok v' w'/\cD μ' h' w'/\ct μ h w μ' h' w'/\aF μ' v v':=by
 have ptrv : ∀ {μ':Mu} {B:Nat},μ' h.next=some ⟨B,0,0,0⟩->aF μ' (ptr h.next 0) (.pointer (some ⟨B,0,none⟩)):=fun hh => .ptr (off:=0) hh;unfold rangeA at e;split at e
 ·rename_i p hm;obtain ⟨kt,et⟩:=p;have hu:=gW hm;cases e;rw [hx.bG rfl];obtain ⟨hS,hSt⟩:=S.allocO (o := .iter none 0 [] 0) hf (ob := .mapIter none 0 #[] 0) (w1:=w.alloc (.mapIter none 0 #[] 0)) (B:=w.heap.size) rfl rfl rfl (DG _) (by simp) (fun C hC=>gI w _ C hC) (World.alloc_heap_new w _) ⟨trivial,rfl,rfl,rfl⟩;exact ⟨_,_,_,by simp [Instr.range,run_underlying hu,run_newObj_alloc],hS,hSt,ptrv (Mu.cI _ _ _)⟩
 ·rename_i p b hm;obtain ⟨kt,et⟩:=p;have hu:=gW hm;split at e
  ·rename_i es clock hg;cases e;obtain ⟨L,hL,rfl⟩:=hx.mi;obtain ⟨es',hw,hrel⟩:=S.mapE hg hL;have hnone:μ h.next=none:=hf _ (DG _) (by simp);obtain ⟨hS,hSt⟩:=S.allocO (o := .iter (some b) clock [] clock) hf (ob := .mapIter (some L.blk) clock #[] clock) (w1:=w.alloc (.mapIter (some L.blk) clock #[] clock)) (B:=w.heap.size) rfl rfl rfl (DG _) (by simp) (fun C hC=>gI w _ C hC) (World.alloc_heap_new w _) ⟨⟨L,Mu.np hnone _ _ hL,rfl⟩,rfl,rfl,rfl⟩;exact ⟨_,_,_,by simp [Instr.range,run_underlying hu,de hw,run_newObj_alloc],hS,hSt,ptrv (Mu.cI _ _ _)⟩
  ·cases e
 ·cases e
def BD {t ty:TypeId} {ts:List TypeId} {m m' k k' v:Vl} {h':ae} (S:cD μ h w) (hm:aF μ m m') (hk:aF μ k k') (e:deleteA P t m k h=some (v,h')) :
  ∃ μ' v' w',(Builtin.delete_ (t::ts).toArray ty #[m',k']).run P w = .ok v' w'/\cD μ' h' w'/\ct μ h w μ' h' w'/\aF μ' v v':=by
 unfold deleteA at e;split at e
 ·rename_i kt et hmt;have hu:=gW hmt;split at e
  ·rename_i hc;simp only [DD] at hc;have hk':=hk.fu hc.2;subst hk';obtain ⟨d,hd⟩:=qO hc.1;split at e
   ·cases e;rw [hm.bG rfl];exact ⟨μ,_,w,by simp [Builtin.delete_,run_underlying hu,dS _ _ hc.1];rfl,S,.cq,.undef μ⟩
   ·rename_i b;split at e
    ·rename_i es clock hg;obtain ⟨L,hL,rfl⟩:=hm.mi;obtain ⟨es',hw,hrel⟩:=S.mapE hg hL;split at e
     ·rename_i i v1 hf;obtain ⟨r',hf',hrr⟩:=fw (w:=w) hd hrel.1 hrel.2 hf;obtain ⟨v',rfl,hv⟩:=hrr.some;cases e;have hset:jX μ (es.eraseIdx i) (es'.eraseIdxIfInBounds i):=by
       refine ⟨?_,fun j y f hy hf => ?_⟩
       ·unfold Array.eraseIdxIfInBounds;split
        ·rename_i hi;rw [Array.size_eraseIdx,List.length_eraseIdx,DH (by rw [hrel.1];exact hi),hrel.1]
        ·rename_i hi;rw [List.length_eraseIdx,DL (by rw [hrel.1];exact hi),hrel.1]
       ·rw [List.getElem?_eraseIdx] at hy;have hf2:f∈es'.eraseIdxIfInBounds i:=G8 hf;unfold Array.eraseIdxIfInBounds at hf;split at hf
        ·rename_i hi;rw [Array.getElem?_eraseIdx] at hf;split at hf
         ·rename_i hj;rw [DH hj] at hy;exact hrel.2 _ _ _ hy hf
         ·rename_i hj;rw [DL hj] at hy;exact hrel.2 _ _ _ hy hf
        ·rename_i hi;have hj:j<i:=by have:=(DT.1 hf).1;omega
         rw [DH hj] at hy;exact hrel.2 _ _ _ hy hf
      obtain ⟨hS,hSt⟩:=S.setO (o' := .map (es.eraseIdx i) clock) (ob' := .map (es'.eraseIdxIfInBounds i) clock) hg hL ⟨rfl,hset⟩;exact ⟨μ,_,_,by simp [Builtin.delete_,run_underlying hu,de hw,dS _ _ hc.1,hf',gO _ hw];rfl,hS,hSt,.undef μ⟩
     ·rename_i hf;obtain ⟨r',hf',hrr⟩:=fw (w:=w) hd hrel.1 hrel.2 hf;have:=hrr.none;subst this;cases e;obtain ⟨hS,hSt⟩:=S.setO (o' := .map es clock) (ob' := .map es' clock) hg hL ⟨rfl,hrel⟩;exact ⟨μ,_,_,by simp [Builtin.delete_,run_underlying hu,de hw,dS _ _ hc.1,hf',gO _ hw];rfl,hS,hSt,.undef μ⟩
     ·cases e
    ·cases e
   ·cases e
  ·cases e
 ·cases e
def Cb {t ty:TypeId} {x x' v:Vl} (S:cD μ h w) (hx:aF μ x x') (hm:(mapT P t).isSome=true) (e:wR x h=some v) :
  (Builtin.len_ #[t] ty #[x']).run P w = .ok v w/\flat v=true:=by
 obtain ⟨⟨kt,et⟩,hm⟩:=E9.1 hm;have hu:=gW hm;unfold wR at e;simp only [DJ] at e;obtain ⟨es,hes,rfl⟩:=e;refine ⟨?_,rfl⟩;unfold entriesA at hes;split at hes
 ·cases hes;rw [hx.bG rfl];simp [Builtin.len_,run_underlying hu];rfl
 ·split at hes
  ·rename_i b es1 clock hg;cases hes;obtain ⟨L,hL,rfl⟩:=hx.mi;obtain ⟨es',hw,hrel⟩:=S.mapE hg hL;simp [Builtin.len_,run_underlying hu,de hw,hrel.1];rfl
  ·cases hes
 ·cases hes
def yl {t ty:TypeId} {x x' v:Vl} {h':ae} (S:cD μ h w) (hx:aF μ x x') (hm:(mapT P t).isSome=true) (e:jx x h=some (v,h')) :
  ∃ μ' v' w',(Builtin.clear_ #[t] ty #[x']).run P w = .ok v' w'/\cD μ' h' w'/\ct μ h w μ' h' w'/\aF μ' v v':=by
 obtain ⟨⟨kt,et⟩,hm⟩:=E9.1 hm;have hu:=gW hm;unfold jx at e;split at e
 ·cases e;rw [hx.bG rfl];exact ⟨μ,_,w,by simp [Builtin.clear_,run_underlying hu];rfl,S,.cq,.undef μ⟩
 ·split at e
  ·rename_i b es clock hg;cases e;obtain ⟨L,hL,rfl⟩:=hx.mi;obtain ⟨es',hw,hrel⟩:=S.mapE hg hL;obtain ⟨hS,hSt⟩:=S.setO (o' := .map [] clock) (ob' := .map #[] clock) hg hL ⟨rfl,rfl,by simp⟩;exact ⟨μ,_,_,by simp [Builtin.clear_,run_underlying hu,de hw,gO _ hw];rfl,hS,hSt,.undef μ⟩
  ·cases e
 ·cases e
inductive F2 {α β:Type} (R:α->β->Prop):List α->List β->Prop
 |nil:F2 R [] []
 |cons {a:α} {b:β} {l:List α} {m:List β} (h:R a b) (t:F2 R l m):F2 R (a::l) (b::m)
def F2.filter {α β:Type} {R:α->β->Prop} {p:α->Bool} {q:β->Bool} (hpq : ∀ a b,R a b->p a=q b) : ∀ {l:List α} {m:List β},F2 R l m->F2 R (l.filter p) (m.filter q)
 |_,_,.nil => .nil
 |_,_,.cons h t=>by
  simp only [List.filter_cons,hpq _ _ h];split
  ·exact .cons h (t.filter hpq)
  ·exact t.filter hpq
def F2.append {α β:Type} {R:α->β->Prop} : ∀ {l l':List α} {m m':List β},F2 R l m->F2 R l' m'->F2 R (l++l') (m++m')
 |_,_,_,_,.nil,h=>h
 |_,_,_,_,.cons h t,h' => .cons h (t.append h')
def F2.map {α β γ δ:Type} {R:α->β->Prop} {S:γ->δ->Prop} {f:α->γ} {g:β->δ} (hfg : ∀ a b,R a b->S (f a) (g b)) : ∀ {l:List α} {m:List β},F2 R l m->F2 S (l.map f) (m.map g)
 |_,_,.nil => .nil
 |_,_,.cons h t => .cons (hfg _ _ h) (t.map hfg)
def F2.length {α β:Type} {R:α->β->Prop} : ∀ {l:List α} {m:List β},F2 R l m->l.length=m.length
 |_,_,.nil=>rfl
 |_,_,.cons _ t=>by simp [t.length]
def F2.get {α β:Type} {R:α->β->Prop} : ∀ {l:List α} {m:List β},F2 R l m -> ∀ {i:Nat} {b:β},m[i]? = some b -> ∃ a,l[i]? = some a/\R a b
 |_,_,.nil,i,b,h=>by simp at h
 |_,_,.cons h t,0,b,e=>by simp at e;subst e;exact ⟨_,rfl,h⟩
 |_,_,.cons h t,i+1,b,e=>by simp at e;exact t.get e
def F2.of_get {α β:Type} {R:α->β->Prop} : ∀ {l:List α} {m:List β},l.length=m.length->(∀ (i:Nat) (a:α) (b:β),l[i]? = some a->m[i]? = some b->R a b)->F2 R l m
 | [],[],_,_ => .nil
 | [],_::_,h,_=>by simp at h
 |_::_,[],h,_=>by simp at h
 |a::l,b::m,h,hr => .cons (hr 0 a b rfl rfl) (F2.of_get (by simpa using h) fun i a b ha hb=>hr (i+1) a b ha hb)
def F2.isEmpty {α β:Type} {R:α->β->Prop} {l:List α} {m:List β} (h:F2 R l m):l.isEmpty=m.isEmpty:=by cases h<;>rfl
def F2.all {α β:Type} {R:α->β->Prop} {p:α->Bool} {q:β->Bool} (hpq : ∀ a b,R a b->p a=q b) : ∀ {l:List α} {m:List β},F2 R l m->l.all p=m.all q
 |_,_,.nil=>rfl
 |_,_,.cons h t=>by simp only [List.all_cons,hpq _ _ h,t.all hpq]
def ERl (μ:Mu) (x:Vl×Vl×Nat) (e:MapEntry):Prop:=aF μ x.1 e.key/\aF μ x.2.1 e.val/\x.2.2=e.born
def Bx (μ:Mu):Option (Vl×Vl×Nat)->Option MapEntry->Prop
 |none,none=>True
 |some x,some e=>ERl μ x e
 |_,_=>False
def sr (es':Array MapEntry) (since:Nat) (seen:Array Nat):Array (Option MapEntry):=
 let left:=es'.filter fun e => !seen.contains e.born
 let old:=left.filter (·.born<since)
 let new:=left.filter (·.born>=since)
 (if old.isEmpty then #[none] else #[])++(old++new).map some
def cands_rel {es:List (Vl×Vl×Nat)} {es':Array MapEntry} {since:Nat} {seen:Array Nat} {last:Nat} {l:List (Option (Vl×Vl×Nat))} (h:jX μ es es') (e:pO es since seen.toList last=some l) :
  (!seen.isEmpty && !es'.isEmpty&&es'.all (·.born>=last))=false /\
  F2 (Bx μ) l (sr es' since seen).toList/\l ≠ []:=by
 obtain ⟨el⟩:=es';obtain ⟨sl⟩:=seen;have hf:F2 (ERl μ) es el:=F2.of_get (by simpa using h.1) (fun i a b ha hb=>h.2 i a b ha (by simpa using hb));unfold pO at e;split at e
 ·cases e
 ·rename_i hc;simp only [DA] at e;have f1:F2 (ERl μ) (es.filter fun e => !sl.contains e.2.2) (el.filter fun e => !sl.contains e.born):=hf.filter (fun a b h=>by rw [h.2.2]);have f2:F2 (ERl μ) ((es.filter fun e => !sl.contains e.2.2).filter fun e=>decide (e.2.2<since)) ((el.filter fun e => !sl.contains e.born).filter fun e=>decide (e.born<since)):=f1.filter (fun a b h=>by rw [h.2.2]);have f3:F2 (ERl μ) ((es.filter fun e => !sl.contains e.2.2).filter fun e=>decide (since<=e.2.2)) ((el.filter fun e => !sl.contains e.born).filter fun e=>decide (e.born>=since)):=f1.filter (fun a b h=>by rw [h.2.2]);refine ⟨?_,?_,?_⟩
  ·have e1:es.isEmpty=el.isEmpty:=hf.isEmpty;have e2:(es.all fun e=>decide (last<=e.2.2))=(el.all fun e=>decide (e.born>=last)):=hf.all (fun a b h=>by rw [h.2.2]);simp only [HU] at hc;rw [e1,e2] at hc;simpa using hc
  ·subst e;simp only [sr,List.filter_toArray,List.contains_toArray,List.isEmpty_toArray,List.append_toArray,List.map_toArray];rw [<-f2.isEmpty];have fm:=(f2.append f3).map (S:=Bx μ) (f:=some) (g:=some) (fun a b h=>h);split
   ·simpa using F2.cons (R:=Bx μ) (a:=none) (b:=none) trivial fm
   ·simpa using fm
  ·subst e;split
   ·simp
   ·rename_i hne;simp only [List.isEmpty_iff] at hne;intro h0;simp only [List.nil_append,GA,List.append_eq_nil_iff,GY] at h0;exact hne h0.1
def run_mapNext {n:Nat} (hn:0<n) : ∃ i w1,(choose (.mapNext n)).run P w = .ok i w1/\i<n/\w1.heap=w.heap/\w1.os=w.os/\w1.tape=w.tape/\w1.output=w.output/\w.drawn<=w1.drawn:=by
 by_cases hf:(Question.mapNext n).forced=true
 ·exact ⟨0,w,by simp [choose,Sem.run,hf],hn,rfl,rfl,rfl,rfl,DG _⟩
 ·refine ⟨(Question.mapNext n).cut (w.tape w.drawn (.mapNext n)),{ w with drawn:=w.drawn+1 },by simp [choose,Sem.run,hf],?_,rfl,rfl,rfl,rfl,HH _⟩;exact HW _ hn
def nexts_sound {ty:TypeId} {x x':Vl} {l:List (Vl×ae)} (S:cD μ h w) (hx:aF μ x x') (e:nextsA x h=some l) :
  ∃ p∈l,∃ v' w',(Instr.next x' false ty).run P w = .ok v' w'/\cD μ p.2 w'/\ct μ h w μ p.2 w'/\aF μ p.1 v':=by
 unfold nextsA at e;split at e
 ·rename_i r;have hx' : ∃ L,μ r=some L/\x' = .pointer (some ⟨L.blk,L.off+0,none⟩):=by
   cases hx with
   |flat h=>simp [flat] at h
   |ptr h=>exact ⟨_,h,rfl⟩
  obtain ⟨L,hL,rfl⟩:=hx';have iter : ∀ {m:Option Nat} {since:Nat} {seen:List Nat} {last:Nat},h.getB r=some (.obj (.iter m since seen last)) -> ∃ m' seen',w.heap[L.blk]? = some (.mapIter m' since seen' last)/\L.off=0/\seen=seen'.toList /\
    (match m,m' with|none,none=>True|some a,some B => ∃ L,μ a=some L/\L.blk=B|_,_=>False):=by
   intro m since seen last hg;obtain ⟨L1,ob,g1,g2,g3,g4,g5⟩:=S.obj r _ (h.bS hg) hg;rw [hL] at g1;cases g1;cases ob with
   |mapIter m' since' seen' st'=>
    obtain ⟨q1,rfl,q3,rfl⟩:=g3;exact ⟨m',seen',g2,g5,q3,q1⟩
   |_=>exact g3.elim
  have run_getIter : ∀ {m':Option Nat} {since:Nat} {seen':Array Nat} {last:Nat},w.heap[L.blk]? = some (.mapIter m' since seen' last)->(getObj L.blk).run P w = .ok (.mapIter m' since seen' last) w:=by intro m' since seen' last hw;show (Sem.getObj L.blk Sem.pure).run P w=_;unfold Sem.run;rw [hw];rfl
  split at e
  ·rename_i since seen last hg;obtain ⟨m',seen',hw,h0,rfl,hm⟩:=iter hg;cases e;cases m' with
   |some B=>exact hm.elim
   |none=>
    refine ⟨(.tuple #[.bool false],h),by simp,.tuple #[.bool false],w,?_,S,.cq,.cU (aT.cons (.flat rfl) (aT.nil μ))⟩;simp [Instr.next,h0,run_getIter hw]
  ·rename_i m since seen last hg;obtain ⟨m',seen',hw,h0,rfl,hm⟩:=iter hg;split at e
   ·rename_i es clock hgm;simp only [DJ] at e;obtain ⟨cs,hcs,rfl⟩:=e;cases m' with
    |none=>exact hm.elim
    |some B=>
     obtain ⟨Lm,hLm,rfl⟩:=hm;obtain ⟨es',hwm,hrel⟩:=S.mapE hgm hLm;obtain ⟨hno,hf2,hne⟩:=cands_rel hrel hcs;have hlen:=hf2.length;rw [Array.length_toList] at hlen;obtain ⟨i,w1,hch,hi,hw1,ho1,ht1,hp1,hdr1⟩:=run_mapNext (P:=P) (w:=w) (n:=(sr es' since seen').size) (Nat.lt_of_lt_of_eq (List.length_pos_iff.2 hne) hlen);have S1:cD μ h w1:=S.world hw1;have St1:ct μ h w μ h w1:=ct.refl ho1 ht1 hp1 hw1 hdr1;have hci:=G7 hi;obtain ⟨c,hc,hcr⟩:=hf2.get (i:=i) (by rw [Array.getElem?_toList];exact hci);refine ⟨_,EZ.2 ⟨c,D7 hc,rfl⟩,?_⟩;have hrun : ∀ {k:Option MapEntry},(sr es' since seen')[i]? = some k ->
      (Instr.next (.pointer (some ⟨L.blk,L.off+0,none⟩)) false ty).run P w=(match k with
       |some e=>do
        setObj L.blk (.mapIter (some Lm.blk) since (seen'.push e.born) clock)
        pure (.tuple #[.bool true,e.key,e.val])
       |none=>pure (.tuple #[.bool false]):Sem Vl).run P w1:=by
      intro k hk;have e1:(Instr.next (.pointer (some ⟨L.blk,L.off+0,none⟩)) false ty).run P w=(do
        match (sr es' since seen')[<-choose (.mapNext (sr es' since seen').size)]? with
        |some (some e)=>
         setObj L.blk (.mapIter (some Lm.blk) since (seen'.push e.born) clock)
         pure (.tuple #[.bool true,e.key,e.val])
        |some none=>pure (.tuple #[.bool false])
        | none => stuck "Next: no such candidate" : Sem Vl).run P w := by
       unfold Instr.next;simp only [h0,Nat.add_zero];rw [Sem.run_bind,run_getIter hw,Result.andThen_ok];simp only;rw [Sem.run_bind,de hwm,Result.andThen_ok];simp only [hno,DB,DS];rfl
      rw [e1,Sem.run_bind,hch,Result.andThen_ok,hk];cases k<;>rfl
     generalize hk:(sr es' since seen')[i]=k at hci hcr;cases c with
     |none=>
      cases k with
      |some e=>exact hcr.elim
      |none=>exact ⟨_,w1,hrun hci,S1,St1,.cU (aT.cons (.flat rfl) (aT.nil μ))⟩
     |some y=>
      cases k with
      |none=>exact hcr.elim
      |some en=>
       obtain ⟨r1,r2,r3⟩:=hcr;have hit:pC μ (.iter (some m) since (seen'.toList ++ [y.2.2]) clock) (.mapIter (some Lm.blk) since (seen'.push en.born) clock):=⟨⟨Lm,hLm,rfl⟩,rfl,by simp [r3],rfl⟩
       obtain ⟨hS,hSt⟩:=S1.setO hg hL hit;refine ⟨.tuple #[.bool true,en.key,en.val],_,?_,hS,St1.trans hSt,.cU (aT.cons (.flat rfl) (aT.cons r1 (aT.cons r2 (aT.nil μ))))⟩;rw [hrun hci];have:(setObj L.blk (.mapIter (some Lm.blk) since (seen'.push en.born) clock)).run P w1 = .ok () (w1.putObj L.blk (.mapIter (some Lm.blk) since (seen'.push en.born) clock)):=by show (Sem.setObj L.blk _ (.pure ())).run P w1=_;unfold Sem.run;rw [show w1.heap[L.blk]? = some (.mapIter (some Lm.blk) since seen' last) by rw [hw1];exact hw];rfl
       simp [this]
   ·cases e
  ·cases e
 ·cases e
def next_sound {ty:TypeId} {x x' v:Vl} {str:Bool} {h':ae} (S:cD μ h w) (hx:aF μ x x') (e:nextA x str h=some (v,h')) :
  ∃ μ' v' w',(Instr.next x' str ty).run P w = .ok v' w'/\cD μ' h' w'/\ct μ h w μ' h' w'/\aF μ' v v':=by
 unfold nextA at e;split at e
 ·cases e
 ·rename_i hs;split at e
  ·rename_i r hr;obtain ⟨p,hp,v',w',h1,h2,h3,h4⟩:=nexts_sound (P:=P) (ty:=ty) S hx hr;rw [FB.1 hp] at h2 h3 h4;cases e;exact ⟨μ,v',w',by simpa [hs] using h1,h2,h3,h4⟩
  ·cases e
def F2.find {α β:Type} {R:α->β->Prop} {p:α->Bool} {q:β->Bool} (hpq : ∀ a b,R a b->p a=q b) : ∀ {l:List α} {m:List β},F2 R l m -> ∀ {a:α},l.find? p=some a -> ∃ b,m.find? q=some b/\R a b
 |_,_,.nil,a,h=>by simp at h
 |_,_,.cons h t,a,e=>by
  simp only [List.find?_cons,hpq _ _ h] at e |-;split at e
  ·cases e;exact ⟨_,rfl,h⟩
  ·exact t.find hpq e
def entry_sound {x x' v:Vl} {h':ae} (S:cD μ h w) (hx:aF μ x x') (e:entryA x h=some (v,h')) :
  h'=h /\ ∃ v',(Instr.entry x').run P w = .ok v' w/\aF μ v v':=by
 unfold entryA at e;split at e
 ·rename_i r;have hx' : ∃ L,μ r=some L/\x' = .pointer (some ⟨L.blk,L.off+0,none⟩):=by
   cases hx with
   |flat h=>simp [flat] at h
   |ptr h=>exact ⟨_,h,rfl⟩
  obtain ⟨L,hL,rfl⟩:=hx';split at e
  ·rename_i m since seen last hg;split at e
   ·rename_i stamp es clock hst hgm;split at e
    ·rename_i hcl;subst hcl;simp only [DJ,DF] at e;obtain ⟨en,hen,rfl,rfl⟩:=e;obtain ⟨L1,ob,g1,g2,g3,g4,g5⟩:=S.obj r _ (h.bS hg) hg;rw [hL] at g1;cases g1;cases ob with
     |mapIter m' since' seen' st'=>
      obtain ⟨q1,rfl,q3,rfl⟩:=g3;cases m' with
      |none=>exact q1.elim
      |some B=>
       obtain ⟨Lm,hLm,rfl⟩:=q1;obtain ⟨es',hwm,hrel⟩:=S.mapE hgm hLm;have hf:F2 (ERl μ) es es'.toList:=F2.of_get (by simpa using hrel.1) (fun i a b ha hb=>hrel.2 i a b ha (by simpa using hb));obtain ⟨e',he',r1,r2,r3⟩:=hf.find (p:=fun e=>e.2.2==stamp) (q:=fun e=>e.born==stamp) (fun a b h=>by rw [h.2.2]) hen;have hb:seen'.back? = some stamp:=by rw [<-hst,q3];simp [Array.back?_eq_getElem?,List.getLast?_eq_getElem?]
       have hfind:es'.find? (fun e=>e.born==stamp)=some e':=by rw [<-he'];obtain ⟨l⟩:=es';simp
       refine ⟨rfl,.tuple #[e'.key,e'.val],?_,.cU (aT.cons r1 (aT.cons r2 (aT.nil μ)))⟩;have hgo:(getObj L.blk).run P w = .ok (.mapIter (some Lm.blk) since seen' clock) w:=by show (Sem.getObj L.blk Sem.pure).run P w=_;unfold Sem.run;rw [g2];rfl
       unfold Instr.entry;simp only [g5,Nat.add_zero,Sem.run_bind,hgo,Result.andThen_ok,hb,de hwm,ED,DB,DS,hfind,Sem.run_pure]
     |_=>exact g3.elim
    ·cases e
   ·cases e
  ·cases e
 ·cases e
def bd_entry {it v:Vl} {h h':ae} (hb:aE h) (e:entryA it h=some (v,h')):b9 h'.next v=true/\aE h':=by
 unfold entryA at e;split at e
 ·split at e
  ·split at e
   ·rename_i stamp es clock hst hgm;split at e
    ·simp only [DJ,DF] at e;obtain ⟨en,hen,rfl,rfl⟩:=e;have hbm:=hb.obj _ _ hgm;simp only [tQ,DQ,DD] at hbm;have hq:=hbm en (List.mem_of_find?_eq_some hen);exact ⟨by simp only [b9,cT,hq.1,hq.2,GW],hb⟩
    ·cases e
   ·cases e
  ·cases e
 ·cases e
def xM {it v:Vl} {h h':ae} (e:entryA it h=some (v,h')):h'=h:=by
 unfold entryA at e
 repeat' split at e
 all_goals first
  | (cases e;done)
  | (simp only [DJ,DF] at e;obtain ⟨_,_,_,rfl⟩:=e;rfl)
end ops
def Fr (r:Option Nat):Fence:={ Fence.wide with round:=r }
def calls_fr {r:Option Nat} {n:Nat} {P:Program} {f:FuncId} {args:Array Vl} {w:World} {R:Ending->World->Prop} (h:Calls P f args w R):CallsIn (Fr r) n P f args w R:=
 (callsIn_wide (n:=n)).2 h
def fr_calls {r:Option Nat} {n:Nat} {P:Program} {f:FuncId} {args:Array Vl} {w:World} {R:Ending->World->Prop} (h:CallsIn (Fr r) n P f args w R):Calls P f args w R:=
 (callsIn_wide (n:=n)).1 h
def pS (μ:Mu) (h:ae) (w:World) (v:Vl) (h':ae) (e:Ending) (w':World):Prop:=
 ∃ μ' v',e = .returned v'/\cD μ' h' w'/\ct μ h w μ' h' w'/\aF μ' v v'
def Runs (P:Program) (f:FuncId) (args:Array Vl) (w:World) (R:Ending->World->Prop):Prop:=
 (∃ fn, P.funcs[f]? = some fn ∧ (fn.name == "runtime.NumGoroutine") = false ∧ fn.body.isNone = false ∧ Calls P f args w R) ∨ (∃ v w', (callFunc f args).run P w = .ok (.value v) w' ∧ R (.returned v) w')
def Runs.mono {P:Program} {f:FuncId} {args:Array Vl} {w:World} {R R':Ending->World->Prop} (h:Runs P f args w R) (hr : ∀ e w',R e w'->R' e w'):Runs P f args w R':=by
 rcases h with ⟨fn,h1,h2,h3,h4⟩|⟨v,w',h1,h2⟩
 ·exact .inl ⟨fn,h1,h2,h3,h4.mono hr⟩
 ·exact .inr ⟨v,w',h1,hr _ _ h2⟩
def Runs.fE {P : Program} {f : FuncId} {fn : Func} {args : Array Vl} {w : World} {R : Ending → World → Prop} (h : Runs P f args w R) (hf : P.funcs[f]? = some fn) (hn : (fn.name == "runtime.NumGoroutine") = false) (hb : fn.body.isNone = false) : Calls P f args w R := by
 rcases h with ⟨_,_,_,_,h4⟩|⟨v,w',h1,h2⟩
 ·exact h4
 ·unfold callFunc at h1;simp only [Sem.run_bind,run_program,Result.andThen_ok,hf,hn,hb,DB,DS,Sem.run_pure] at h1;cases h1
structure bk (P:Program) (C:ah):Prop where
 grow : ∀ f args h v h',C f args h=some (v,h')->h.next<=h'.next/\h'.n0=h.n0/\h'.old=h.old
 bd : ∀ f args h v h',C f args h=some (v,h')->cT h.next args=true->aE h->b9 h'.next v=true/\aE h'
 run : ∀ f args h v h',C f args h=some (v,h')->f<P.funcs.size->cT h.next args=true->aE h->P.globals.size<=h.n0 -> ∀ μ w args',cD μ h w->fi μ h h'->aT μ args args' ->
  Runs P f args'.toArray w (pS μ h w v h')
 round : ∀ l args h v h',C (zh P l) args h=some (v,h')->cT h.next args=true->aE h->P.globals.size<=h.n0 -> ∀ μ w args' L,cD μ h w->fi μ h h'->aT μ args args'->μ l=some L ->
  ∃ fn tmps assign body,(Instr.yield L.blk args'.toArray).run P w = .ok (.round L.blk fn tmps assign body) w /\ ∀ n,RoundIn (Fr none) n P L.blk fn tmps assign body w (pS μ h w v h')
section ops
variable {P:Program} {C:ah} {μ:Mu} {h:ae} {w:World}
def ra:aF μ undef undef:=aF.undef μ
def Good (P:Program) (o:Oper) (a:Act) (μ:Mu) (h:ae) (w:World) (v:Vl) (h':ae):Prop:=
 ∀ (r:Option Nat) (n:Nat) (K:Act->World->Prop) (Q:Exit->Act->World->Prop),(∀ μ' v' w',cD μ' h' w'->ct μ h w μ' h' w'->aF μ' v v'->K (a.put o.dst v') w')->o.wpIn (Fr r) n P a w K Q
def mY {r:Option Nat} {o:Oper} {ρ:Operand->Vl} {x:Next} {w':World} (he:(execOp ρ o).run P w = .ok x w') (hx : ∀ d,x ≠ .defer d):(o.semAt r ρ).run P w = .ok x w':=by
 rw [Oper.semAt_eq]
 ·exact he
 ·intro c hc;unfold execOp at he;rw [hc] at he;simp only [Sem.run_bind] at he;cases hr:(resolve ρ c o.type).run P w with
  |ok d w1=>
   rw [hr] at he;simp only [Result.andThen_ok,Sem.run_pure,Result.ok.injEq] at he;exact hx d he.1.symm
  |halt x w1=>rw [hr] at he;cases he
def cV {o:Oper} {a:Act} {v:Vl} {h':ae} {s:Sem Vl} (ho:execOp a.eval o=(do pure (.value (<-s))))
  (e : ∃ μ' v' w',s.run P w = .ok v' w'/\cD μ' h' w'/\ct μ h w μ' h' w'/\aF μ' v v'):Good P o a μ h w v h':=by
 intro r n K Q hK;obtain ⟨μ',v',w',hr,hS,hSt,hv⟩:=e;refine ⟨fun _ _=>trivial,?_⟩;rw [mY (x := .value v') (w':=w') (by rw [ho];simp only [Sem.run_bind,hr,Result.andThen_ok,Sem.run_pure]) (by intro d hd;cases hd)];exact hK μ' v' w' hS hSt hv
def rf {o:Oper} {a:Act} {v:Vl} {h':ae} {s:Sem Unit} (ho:execOp a.eval o=(do s;pure .skip))
  (e:v=undef /\ ∃ w',s.run P w = .ok () w'/\cD μ h' w'/\ct μ h w μ h' w'):Good P o a μ h w v h':=by
 intro r n K Q hK;obtain ⟨rfl,w',hr,hS,hSt⟩:=e;refine ⟨fun _ _=>trivial,?_⟩;rw [mY (x := .skip) (w':=w') (by rw [ho];simp only [Sem.run_bind,hr,Result.andThen_ok,Sem.run_pure]) (by intro d hd;cases hd)];exact hK μ undef w' hS hSt ra
def Cj {xt t:TypeId} {ok:Bool} {x x' r:Vl} (hx:aF μ x x') (e:assertA P t ok x=some r) : ∃ r',(Instr.typeAssert x' xt t ok).run P w = .ok r' w/\aF μ r r':=by
 unfold assertA at e;cases hu:P.underlying t with
 |none=>rw [hu] at e;cases e
 |some d=>
  rw [hu] at e;have key : ∀ (u:TypeId) (v v':Vl),aF μ v v'->(∀ ms,d ≠ .interface ms)->(if u=t then some (if ok=true then Value.tuple #[v,.bool true] else v) else none)=some r -> ∃ r',(Instr.typeAssert (.iface u v') xt t ok).run P w = .ok r' w/\aF μ r r':=by
   intro u v v' hv hd e1;clear e;split at e1
   ·rename_i hut;subst hut;have hrun:(Instr.typeAssert (.iface u v') xt u ok).run P w = .ok (if ok=true then .tuple #[v',.bool true] else v') w:=by
     unfold Instr.typeAssert;simp only [Sem.run_bind,run_underlying hu,Result.andThen_ok];cases d with
     |interface ms=>exact absurd rfl (hd ms)
     |_=>simp
    refine ⟨_,hrun,?_⟩;cases ok with
    |false=>
     simp only [DB,DS,DA] at e1 |-;subst e1;exact hv
    |true=>
     simp only [DV,DA] at e1 |-;subst e1;exact .cU (.cons hv (.cons (.flat rfl) (aT.nil _)))
   ·cases e1
  cases d with
  |interface ms=>cases e
  |_=>
   simp only at e;cases x with
   |iface u v=>
    cases hx with
    |flat h=>simp [flat] at h
    |iface hv=>exact key u v _ hv (by intro ms h;cases h) e
   |_=>cases e
def iface_sound {t:TypeId} {x x' r:Vl} (hx:aF μ x x') (e:ifaceA P t x=some r) : ∃ r',(Instr.makeInterface t x').run P w = .ok r' w/\aF μ r r':=by
 unfold ifaceA at e;cases ht:P.underlying t with
 |none=>rw [ht] at e;cases e
 |some d=>
  rw [ht] at e;have hr : (Instr.makeInterface t x').run P w = (match d with | .interface _ => (stuck "MakeInterface: a concrete type expected" : Sem Vl) | _ => pure (.iface t x')).run P w := by unfold Instr.makeInterface;rw [Sem.run_bind,run_underlying ht];rfl
  cases d with
  |interface m=>cases e
  |_=>cases e;exact ⟨_,by rw [hr];rfl,.iface hx⟩
def cf {o:Oper} {a:Act} {v:Vl} {s:Sem Vl} (S:cD μ h w) (ho:execOp a.eval o=(do pure (.value (<-s))))
  (e : ∃ v',s.run P w = .ok v' w/\aF μ v v'):Good P o a μ h w v h:=by
 obtain ⟨v',hr,hv⟩:=e;exact cV ho ⟨μ,v',w,hr,S,.cq,hv⟩
def AG {ρ ρ':Operand->Vl} {parts:Array (Nat×Operand)} (hρ : ∀ x∈(parts.toList.map (·.2)),aF μ (ρ x) (ρ' x)) :
  (parts.toList.map fun (i,x)=>(i,ρ x)).length=(parts.map fun (i,x)=>(i,ρ' x)).size /\
  ∀ (i:Nat) (x y:Nat×Vl),(parts.toList.map fun (i,x)=>(i,ρ x))[i]? = some x->(parts.map fun (i,x)=>(i,ρ' x)).toList[i]? = some y->x.1=y.1/\aF μ x.2 y.2:=by
 refine ⟨by simp,fun i x y hx hy => ?_⟩;rw [IE] at hy;rw [D4] at hx hy;cases hp:parts.toList[i]? with
 |none=>rw [hp] at hx;cases hx
 |some p=>
  rw [hp] at hx hy;simp only [Option.map_some,DA] at hx hy;subst hx hy;exact ⟨rfl,hρ _ (EZ.2 ⟨p,D7 hp,rfl⟩)⟩
def wN {ρ ρ':Operand->Vl} {x:Option Operand} (hρ : ∀ y,x=some y->aF μ (ρ y) (ρ' y)):sW μ (x.map ρ) (x.map ρ'):=by
 cases x with
 |none=>exact .inl ⟨rfl,rfl⟩
 |some y=>exact .inr ⟨_,_,rfl,rfl,hρ y rfl⟩
def qb {ρ ρ':Operand->Vl} : ∀ {l:List Operand},(∀ x∈l,aF μ (ρ x) (ρ' x))->aT μ (l.map ρ) (l.map ρ')
 | [],_=>aT.nil μ
 |x::l,h=>aT.cons (h x (by simp)) (qb fun y hy=>h y (by simp [hy]))
def Cc {o:Oper} {a:Act} {c:Call} {b:Builtin} (ho:o.op = .call c) (hc:c.callee = .builtin b) :
  execOp a.eval o=builtin b c.argTypes o.type (c.args.map fun | .const _=>true|_=>false) (c.args.map a.eval):=by
 unfold execOp;rw [ho];simp only;unfold resolve;rw [hc];rfl
def da {α:Type} {x:Array α} {l:List α} (h:x.toList=l):x=l.toArray:=by rw [<-h]
def su {t el:TypeId} (h:elemT P t=some el):P.underlying t=some (.slice el):=by
 unfold elemT at h;split at h
 ·cases h;assumption
 ·cases h
def aF.zp {f:Fn} {x y:Array Vl} {v:Vl} (hv:aF μ (.func f x y) v) : ∃ g x' y',v = .func g x' y'/\FRel μ f g/\aT μ x.toList x'.toList/\aT μ y.toList y'.toList:=by
 cases hv with
 |flat h=>
  cases f<;>simp [Abs.flat] at h;obtain ⟨rfl,rfl⟩:=h;exact ⟨_,_,_,rfl,.func,aT.nil μ,aT.nil μ⟩
 |func hf h1 h2 h3 h4=>
  exact ⟨_,_,_,rfl,hf,⟨by simpa using h1,fun i a b ha hb=>h2 i a b (by simpa using ha) (by simpa using hb)⟩,⟨by simpa using h3,fun i a b ha hb=>h4 i a b (by simpa using ha) (by simpa using hb)⟩⟩
def AS (hC:bk P C) {o:Oper} {ρ:Operand->Vl} {a:Act} {v:Vl} {h':ae} (S:cD μ h w) (hf:fi μ h h')
  (hρ : ∀ x∈o.op.operands.toList,aF μ (ρ x) (a.eval x)) (hg:P.globals.size<=h.n0) (hbd : ∀ c f,o.op = .call c->c.callee = .value f->(∀ x∈o.op.operands.toList,b9 h.next (ρ x)=true)/\aE h)
  (e:opA P C o ρ h=some (v,h')):Good P o a μ h w v h':=by
 have pure_of : ∀ {r:Option Vl} {v:Vl} {h':ae},r.map (fun v=>(v,h))=some (v,h')->r=some v/\h'=h:=by intro r v h' e;simp only [DJ,DF] at e;obtain ⟨x,rfl,rfl,rfl⟩:=e;exact ⟨rfl,rfl⟩
 have hop : ∀ op,o.op=op->(∀ x∈op.operands.toList,aF μ (ρ x) (a.eval x)):=fun op h=>h▸hρ;unfold opA at e;simp only at e;split at e
 ·rename_i x heq;cases e;exact cf S (s:=pure (a.eval x)) (by unfold execOp;rw [heq];try rfl) ⟨_,rfl,hop _ heq x (by simp [Op.operands])⟩
 ·rename_i x heq;cases e;exact cf S (s:=pure (a.eval x)) (by unfold execOp;rw [heq];try rfl) ⟨_,rfl,hop _ heq x (by simp [Op.operands])⟩
 ·rename_i c x y heq;split at e
  ·rename_i t ht;cases e;have hc:=hop _ heq c (by simp [Op.operands]);rw [ht] at hc;refine cf S (s:=do pure (if <-asBool (a.eval c) then a.eval x else a.eval y)) (by unfold execOp;rw [heq];simp) ⟨if t then a.eval x else a.eval y,?_,?_⟩
   ·rw [hc.bool];cases t<;>simp [asBool]
   ·cases t
    ·exact hop _ heq y (by simp [Op.operands])
    ·exact hop _ heq x (by simp [Op.operands])
  ·cases e
 ·rename_i t heq;exact cV (s:=Instr.alloc t true (.tuple #[])) (by unfold execOp;rw [heq];try rfl) (zero_sound S hf e)
 ·rename_i t x heq;exact cV (s:=Instr.box t (a.eval x)) (by unfold execOp;rw [heq];try rfl) (box_sound S hf (hop _ heq x (by simp [Op.operands])) e)
 ·rename_i t parts heq;obtain ⟨e2,rfl⟩:=pure_of e;have hp:=AG (parts:=parts) (fun x hx=>hop _ heq x (by simpa [Op.operands] using hx));exact cf S (s:=Instr.build t (parts.map fun (i,x)=>(i,a.eval x))) (by unfold execOp;rw [heq];try rfl) (build_sound hp.1 hp.2 e2)
 ·rename_i t len parts heq;have hp:=AG (parts:=parts) (fun x hx=>hop _ heq x (by simpa [Op.operands] using hx));exact cV (s:=Instr.buildSlice t len (parts.map fun (i,x)=>(i,a.eval x))) (by unfold execOp;rw [heq];try rfl) (uN S hf hp.1 hp.2 e)
 ·rename_i t x heq;obtain ⟨rfl,r',hr,hv⟩:=ld_sound (P:=P) S (hop _ heq x (by simp [Op.operands])) e;exact cf S (s:=Instr.loadAt t (a.eval x)) (by unfold execOp;rw [heq];try rfl) ⟨r',hr,hv⟩
 ·rename_i t x y heq;exact rf (s:=Instr.storeAt t (a.eval x) (a.eval y)) (by unfold execOp;rw [heq];try rfl) (st_sound S (hop _ heq x (by simp [Op.operands])) (hop _ heq y (by simp [Op.operands])) e)
 ·rename_i x heq;obtain ⟨e2,rfl⟩:=pure_of e;obtain ⟨hv,hx⟩:=Dd (hop _ heq x (by simp [Op.operands])) e2;refine cf S (s:=pure (a.eval x)) ?_ ⟨_,rfl,hv⟩;unfold execOp;rw [heq];rcases hx with ⟨b,hx⟩|⟨f,b,c,hx⟩|⟨f,b,c,hx⟩
  ·simp only [hx];rfl
  ·simp only [hx];rfl
  ·simp only [hx];rfl
 ·rename_i op t x y u heq;obtain ⟨e2,rfl⟩:=pure_of e;have hx:=hop _ heq x (by simp [Op.operands]);have hy:=hop _ heq y (by simp [Op.operands]);refine cf S (s:=(do eqGuard op t x y (a.eval x) (a.eval y);binOp op t (a.eval x) (a.eval y))) (by unfold execOp;rw [heq];try rfl) ⟨v,bin_sound hx hy e2,.flat (bin_flat e2)⟩
 ·rename_i op t x heq;obtain ⟨e2,rfl⟩:=pure_of e;refine cf S (s:=Op.unary op (a.eval x)) (by unfold execOp;rw [heq];try rfl) ⟨v,un_sound (hop _ heq x (by simp [Op.operands])) e2,.flat (un_flat e2)⟩
 ·rename_i s d x heq;exact cV (s:=convert s d (a.eval x)) (by unfold execOp;rw [heq];try rfl) (conv_sound S hf (hop _ heq x (by simp [Op.operands])) e)
 ·rename_i t l c heq;exact cV (s:=Instr.makeSlice t (a.eval l) (a.eval c)) (by unfold execOp;rw [heq];try rfl) (make_sound S hf (hop _ heq l (by simp [Op.operands])) (hop _ heq c (by simp [Op.operands])) e)
 ·rename_i t x lo hi mx heq;obtain ⟨e2,rfl⟩:=pure_of e;exact cf S (s:=Instr.sliceAt t (a.eval x) (lo.map a.eval) (hi.map a.eval) (mx.map a.eval)) (by unfold execOp;rw [heq];try rfl)
   (slice_sound (hop _ heq x (by simp [Op.operands])) (wN fun y hy=>hop _ heq y (by subst hy;simp [Op.operands])) (wN fun y hy=>hop _ heq y (by subst hy;simp [Op.operands])) (wN fun y hy=>hop _ heq y (by subst hy;simp [Op.operands])) e2)
 ·rename_i t x i heq;obtain ⟨e2,rfl⟩:=pure_of e;exact cf S (s:=Instr.fieldAt t (a.eval x) i) (by unfold execOp;rw [heq];try rfl) (Am (hop _ heq x (by simp [Op.operands])) e2)
 ·rename_i t x i heq;obtain ⟨e2,rfl⟩:=pure_of e;exact cf S (s:=Instr.field t (a.eval x) i) (by unfold execOp;rw [heq];try rfl) (field_sound (hop _ heq x (by simp [Op.operands])) e2)
 ·rename_i t x i heq;obtain ⟨e2,rfl⟩:=pure_of e;exact cf S (s:=Instr.indexAt t (a.eval x) (a.eval i)) (by unfold execOp;rw [heq];try rfl) (Aa (hop _ heq x (by simp [Op.operands])) (hop _ heq i (by simp [Op.operands])) e2)
 ·rename_i t x i heq;obtain ⟨e2,rfl⟩:=pure_of e;exact cf S (s:=Instr.index t (a.eval x) (a.eval i)) (by unfold execOp;rw [heq];try rfl) (index_sound (hop _ heq x (by simp [Op.operands])) (hop _ heq i (by simp [Op.operands])) e2)
 ·rename_i t i heq;obtain ⟨e2,rfl⟩:=pure_of e;exact cf S (s:=Instr.extract (a.eval t) i) (by unfold execOp;rw [heq];try rfl) (Aj (hop _ heq t (by simp [Op.operands])) e2)
 ·rename_i f first captured heq
  have hel : ∀ {xs:Array Operand},(∀ z∈xs.toList,aF μ (ρ z) (a.eval z)) -> ∀ (i:Nat) (x y:Vl),(xs.map ρ)[i]? = some x->(xs.map a.eval)[i]? = some y->aF μ x y:=by
   intro xs hxs i x y hx hy;rw [Array.getElem?_map] at hx hy;cases hf:xs[i]? with
   |none=>rw [hf] at hx;cases hx
   |some z=>
    rw [hf] at hx hy;cases hx;cases hy;exact hxs z (GK.2 (G8 hf))
  have h1:=hel (xs:=first) (fun z hz=>hop _ heq z (by simp only [Op.operands,GD,D8];exact .inl hz));have h2:=hel (xs:=captured) (fun z hz=>hop _ heq z (by simp only [Op.operands,GD,D8];exact .inr hz));split at e
  ·cases e
  ·rename_i hny;cases e;refine cf S (s:=Instr.makeFunc f (first.map a.eval) (captured.map a.eval)) (by unfold execOp;rw [heq];try rfl) ⟨_,rfl,.func ?_ (by simp) h1 (by simp) h2⟩;cases f with
   |yield l=>exact absurd rfl (hny l)
   |_=>rfl
 ·rename_i t x heq;obtain ⟨e2,rfl⟩:=pure_of e;exact cf S (s:=Instr.makeInterface t (a.eval x)) (by unfold execOp;rw [heq];try rfl) (iface_sound (hop _ heq x (by simp [Op.operands])) e2)
 ·rename_i x xt t ok heq;obtain ⟨e2,rfl⟩:=pure_of e;exact cf S (s:=Instr.typeAssert (a.eval x) xt t ok) (by unfold execOp;rw [heq];try rfl) (Cj (hop _ heq x (by simp [Op.operands])) e2)
 ·rename_i t r heq;exact cV (s:=Instr.makeMap t (r.map a.eval)) (by unfold execOp;rw [heq];try rfl) (zC S hf (wN fun y hy=>hop _ heq y (by subst hy;simp [Op.operands])) e)
 ·rename_i t x k ok heq;obtain ⟨rfl,r',hr,hv⟩:=By S (hop _ heq x (by simp [Op.operands])) (hop _ heq k (by simp [Op.operands])) e;exact cf S (s:=Instr.lookup t (a.eval x) (a.eval k) ok) (by unfold execOp;rw [heq];try rfl) ⟨r',hr,hv⟩
 ·rename_i t m k x heq;exact rf (s:=Instr.mapUpdate t (a.eval m) (a.eval k) (a.eval x)) (by unfold execOp;rw [heq];try rfl) (oP S (hop _ heq m (by simp [Op.operands])) (hop _ heq k (by simp [Op.operands])) (hop _ heq x (by simp [Op.operands])) e)
 ·rename_i t m k x heq;exact rf (s:=Instr.mapUpdate t (a.eval m) (a.eval k) (a.eval x)) (by unfold execOp;rw [heq];try rfl) (oP S (hop _ heq m (by simp [Op.operands])) (hop _ heq k (by simp [Op.operands])) (hop _ heq x (by simp [Op.operands])) e)
 ·rename_i t m k heq;exact cV (s:=Instr.mapEntry t (a.eval m) (a.eval k)) (by unfold execOp;rw [heq];try rfl) (xD S (hop _ heq m (by simp [Op.operands])) (hop _ heq k (by simp [Op.operands])) e)
 ·rename_i t m k x heq;exact rf (s:=Instr.entryStore t (a.eval m) (a.eval k) (a.eval x)) (by unfold execOp;rw [heq];try rfl) (vc S (hop _ heq m (by simp [Op.operands])) (hop _ heq k (by simp [Op.operands])) (hop _ heq x (by simp [Op.operands])) e)
 ·rename_i t x heq;exact cV (s:=Instr.range t (a.eval x)) (by unfold execOp;rw [heq];try rfl) (range_sound S hf (hop _ heq x (by simp [Op.operands])) e)
 ·rename_i x str heq;exact cV (s:=Instr.next (a.eval x) str o.type) (by unfold execOp;rw [heq];try rfl) (next_sound S (hop _ heq x (by simp [Op.operands])) e)
 ·rename_i x heq;have hx:=hop _ heq x (by simp [Op.operands]);have he:=entry_sound (P:=P) (w:=w) S hx e;have e1:=he.1;obtain ⟨r',hr,hv⟩:=he.2;subst e1;exact cf S (s:=Instr.entry (a.eval x)) (by unfold execOp;rw [heq];try rfl) ⟨r',hr,hv⟩
 ·rename_i c heq;have hargs : ∀ x∈c.args.toList,aF μ (ρ x) (a.eval x):=fun x hx=>hop _ heq x (by simp only [Op.operands,Call.operands,GD,D8];exact .inr hx)
  split at e
  ·rename_i b hcb;have hex:=Cc (a:=a) heq hcb;unfold builtinA at e;split at e
   ·rename_i _ _ _ s x t tx ha ht;obtain ⟨os,l,hos,rfl,hl⟩:=GL.1 ha;obtain ⟨ox,l,rfl,rfl,hl2⟩:=GL.1 hl;obtain rfl:=GY.1 hl2;have ec:c.args.map a.eval = #[a.eval os,a.eval ox]:=by rw [da hos];simp
    have et:=da ht;have hs:=hargs os (by rw [hos];simp);have hx:=hargs ox (by rw [hos];simp);split at e
    ·rename_i el hel;have hu:=su hel;split at e
     ·rename_i n by_ z d hn hby hz hd;split at e
      ·cases e
      ·rename_i hc;simp only [FI,GI,DR,not_or,HC,IL,HU] at hc;refine cV (s:=Builtin.append_ #[t,tx] o.type #[a.eval os,a.eval ox]) ?_ (CJ hu hd hc.1.1 hn hby hz hc.1.2 (by omega) S hf hs hx e);rw [hex,ec,et];rfl
     ·cases e
    ·cases e
   ·rename_i _ _ _ d s t tx ha ht;obtain ⟨os,l,hos,rfl,hl⟩:=GL.1 ha;obtain ⟨ox,l,rfl,rfl,hl2⟩:=GL.1 hl;obtain rfl:=GY.1 hl2;have ec:c.args.map a.eval = #[a.eval os,a.eval ox]:=by rw [da hos];simp
    have et:=da ht;have hs:=hargs os (by rw [hos];simp);have hx:=hargs ox (by rw [hos];simp);split at e
    ·rename_i el hel;have hu:=su hel;simp only [DU] at e;obtain ⟨n,hn,e⟩:=e;obtain ⟨w',hrun,hS,hSt,k,rfl⟩:=copy_sound (P:=P) (sT:=tx) (ty:=o.type) hu hn S hs hx e;refine cV (s:=Builtin.copy_ #[t,tx] o.type #[a.eval os,a.eval ox]) ?_ ⟨μ,_,w',hrun,hS,hSt,.flat rfl⟩;rw [hex,ec,et];rfl
    ·cases e
   ·rename_i _ _ _ d t ha ht;obtain ⟨os,l,hos,rfl,hl⟩:=GL.1 ha;obtain rfl:=GY.1 hl;have ec:c.args.map a.eval = #[a.eval os]:=by rw [da hos];simp
    have et:=da ht;have hs:=hargs os (by rw [hos];simp);split at e
    ·rename_i el hel;have hu:=su hel;simp only [DU] at e;obtain ⟨n,hn,e⟩:=e;obtain ⟨w',hrun,hS,hSt,rfl⟩:=clear_sound (P:=P) (ty:=o.type) hu S hs e;refine cV (s:=Builtin.clear_ #[t] o.type #[a.eval os]) ?_ ⟨μ,_,w',hrun,hS,hSt,ra⟩;rw [hex,ec,et];rfl
    ·split at e
     ·rename_i hm;refine cV (s:=Builtin.clear_ #[t] o.type #[a.eval os]) ?_ (yl S hs hm e);rw [hex,ec,et];rfl
     ·cases e
   ·rename_i _ _ _ x t ha ht;obtain ⟨os,l,hos,rfl,hl⟩:=GL.1 ha;obtain rfl:=GY.1 hl;have ec:c.args.map a.eval = #[a.eval os]:=by rw [da hos];simp
    have et:=da ht;have hs:=hargs os (by rw [hos];simp);split at e
    ·rename_i u e2;cases e;obtain ⟨hr,hfl⟩:=len_sound (P:=P) (w:=w) (ty:=o.type) hs e2;refine cf S (s:=Builtin.len_ #[t] o.type #[a.eval os]) ?_ ⟨_,hr,.flat hfl⟩;rw [hex,ec,et];rfl
    ·split at e
     ·rename_i hm;obtain ⟨e2,rfl⟩:=pure_of e;obtain ⟨hr,hfl⟩:=Cb (P:=P) (w:=w) (ty:=o.type) S hs hm e2;refine cf S (s:=Builtin.len_ #[t] o.type #[a.eval os]) ?_ ⟨_,hr,.flat hfl⟩;rw [hex,ec,et];rfl
     ·cases e
   ·rename_i _ _ _ m k t ts ha ht;obtain ⟨os,l,hos,rfl,hl⟩:=GL.1 ha;obtain ⟨ox,l,rfl,rfl,hl2⟩:=GL.1 hl;obtain rfl:=GY.1 hl2;have ec:c.args.map a.eval = #[a.eval os,a.eval ox]:=by rw [da hos];simp
    have et:=da ht;refine cV (s:=Builtin.delete_ (t::ts).toArray o.type #[a.eval os,a.eval ox]) ?_ (BD S (hargs os (by rw [hos];simp)) (hargs ox (by rw [hos];simp)) e);rw [hex,ec,et];rfl
   ·rename_i _ _ _ x y r ha;obtain ⟨e2,rfl⟩:=pure_of e;obtain ⟨hfl,hfr⟩:=oX e2 (by simp);have hl:=qb hargs;rw [ha] at hl;have hq:=hl.bG hfl;obtain ⟨hr,_⟩:=max_fold (P:=P) (w:=w) _ _ _ e2;refine cf S (s:=Builtin.max_ c.argTypes o.type (c.args.map a.eval)) (by rw [hex];rfl) ⟨_,?_,.flat hfr⟩;unfold Builtin.max_;rw [IE,hq];exact hr
   ·rename_i _ _ _ x y r ha;obtain ⟨e2,rfl⟩:=pure_of e;obtain ⟨hfl,hfr⟩:=oX e2 (by simp);have hl:=qb hargs;rw [ha] at hl;have hq:=hl.bG hfl;obtain ⟨hr,_⟩:=min_fold (P:=P) (w:=w) _ _ _ e2;refine cf S (s:=Builtin.min_ c.argTypes o.type (c.args.map a.eval)) (by rw [hex];rfl) ⟨_,?_,.flat hfr⟩;unfold Builtin.min_;rw [IE,hq];exact hr
   ·cases e
  ·rename_i f hcv;have hfv:aF μ (ρ f) (a.eval f):=hop _ heq f (by simp [Op.operands,Call.operands,hcv]);obtain ⟨hbo,hbh⟩:=hbd c f heq hcv;rw [heq] at hbo;have hff:=hbo f (by simp [Op.operands,Call.operands,hcv]);have hargb:cT h.next (c.args.toList.map ρ)=true:=by rw [eX];intro y hy;obtain ⟨x,hx,rfl⟩:=EZ.1 hy;exact hbo x (by simp only [Op.operands,Call.operands,GD,D8];exact .inr hx)
   unfold callA at e;split at e
   ·rename_i i first captured hfe
    split at e
    ·rename_i hi;rw [hfe] at hfv;obtain ⟨g,first',captured',hfe',hg',h1,h2⟩:=hfv.zp;cases hg';have hall:=(h1.append (qb hargs)).append h2;have hba:cT h.next (first.toList++c.args.toList.map ρ++captured.toList)=true:=by
      rw [hfe] at hff;obtain ⟨lf⟩:=first
      obtain ⟨lc⟩:=captured;simp only [b9,DD] at hff;exact cL (cL hff.2.1 hargb) hff.2.2
     have hcalls:=hC.run _ _ _ _ _ e hi hba hbh hg μ w _ S hf hall;intro r n K Q hK;refine ⟨fun _ _=>trivial,?_⟩;have hres:(execOp a.eval o).run P w=(callFunc i ((first'.toList++c.args.toList.map a.eval++captured'.toList).toArray)).run P w:=by
      unfold execOp;rw [heq];simp only;unfold resolve;rw [hcv];simp only [hfe',Deferred.ofValue,Sem.run_bind,Sem.run_pure,Result.andThen_ok,invoke]
      congr 2
      apply IJ;simp
     rcases hcalls with ⟨fn,hfn,hname,hbody,hcalls⟩|⟨v',w',hrun,μ',v1,hv1,hS,hSt,hv⟩
     ·rw [mY (x := .enter i ((first'.toList++c.args.toList.map a.eval++captured'.toList).toArray)) (w':=w) (by rw [hres];unfold callFunc;simp only [Sem.run_bind,run_program,Result.andThen_ok,hfn,hname,hbody,DB,DS,Sem.run_pure]) (by intro d hd;cases hd)]
      refine ⟨(fun h=>by cases h),?_⟩;refine (calls_fr hcalls).mono ?_;rintro e w' ⟨μ',v',rfl,hS,hSt,hv⟩;exact hK μ' v' w' hS hSt hv
     ·cases hv1;rw [mY (x := .value v') (w':=w') (by rw [hres];exact hrun) (by intro d hd;cases hd)];exact hK μ' v' w' hS hSt hv
    ·cases e
   ·rename_i l first captured hfe
    rw [hfe] at hfv;obtain ⟨g,first',captured',hfe',hg',h1,h2⟩:=hfv.zp;obtain ⟨L,hL,rfl⟩:=hg';have hall:=h1.append (qb hargs);have hba:cT h.next (first.toList++c.args.toList.map ρ)=true:=by
     rw [hfe] at hff;obtain ⟨lf⟩:=first
     obtain ⟨lc⟩:=captured;simp only [b9,DD] at hff;exact cL hff.2.1 hargb
    obtain ⟨fn,tmps,assign,body,hy,hround⟩:=hC.round _ _ _ _ _ e hba hbh hg μ w _ L S hf hall hL;intro r n K Q hK;refine ⟨fun _ _=>trivial,?_⟩;have hres:(execOp a.eval o).run P w = .ok (.round L.blk fn tmps assign body) w:=by
     unfold execOp;rw [heq];simp only;unfold resolve;rw [hcv];simp only [hfe',Deferred.ofValue,Sem.run_bind,Sem.run_pure,Result.andThen_ok,invoke];have:first'++c.args.map a.eval=(first'.toList++c.args.toList.map a.eval).toArray:=by apply IJ;simp
     rw [this];exact hy
    rw [mY hres (by intro d hd;cases hd)];refine ⟨(fun h=>by cases h),?_⟩;refine RoundIn.mono (F:=Fr r) (hround (n-1)) ?_;rintro e w' ⟨μ',v',rfl,hS,hSt,hv⟩;exact hK μ' v' w' hS hSt hv
   ·cases e
  ·cases e
 ·cases e
end ops
end
end Go.Abs
