/-
  A part of the proof, shortened by a program.
  Conditions: as each theorem states.
-/
import Derived.Test.YtdhpgacmgebjdaaGreatDoorG13
set_option linter.all false
namespace Go.Proofs.YtdhpgacmgebjdaaGreatDoor
open Go Go.Abs Tryz
noncomputable section
def nw {P:Program} {w w':World} {g o:Nat} {v c:Vl} (hv:v.oneCell'=true) (hc:w.cell? ⟨g,o,none⟩=some c) (e:(Go.storeCells ⟨g,o,none⟩ [v]).run P w = .ok () w'):w'=w.setCell ⟨g,o,none⟩ v/\w.frozen? ⟨g,o,none⟩=false:=by
 simp only [storeCells,Sem.run_bind,Addr.add_lit,Nat.add_zero] at e;rw [run_store P w _ v _ hv,hc] at e;cases hf:w.frozen? ⟨g,o,none⟩ with
 |true=>rw [hf] at e;cases e
 |false=>
  rw [hf] at e;simp only [DB,DS,Result.andThen_ok,Sem.run_pure,Result.ok.injEq] at e;exact ⟨e.2.symm,rfl⟩
set_option maxRecDepth 100000 in
def do_done (b off:Nat) (fv:Vl) (x:Int) (hx:(x != 0)=true) (w:World) (h0:w.cell? ⟨b,off,none⟩=some (.int .u32 x)) :
  Calls prog 231 #[.pointer (some ⟨b,off,none⟩),fv] w fun e w'=>e = .returned (.tuple #[])/\w'=w:=by
 have hnot : ∀ (x:Bool) (w:World),(Op.unary .not (.bool x)).run prog w = .ok (.bool (!x)) w:=fun _ _=>rfl
 go_enter Tryz.func231,Tryz.ntmps231
 go_wp2_with (go_at_call 249;refine (load_b ⟨b,off,none⟩ x _ h0).mono ?_;rintro e w' ⟨rfl,rfl⟩)
 all_goals first|(go_end0;exact ⟨rfl,rfl⟩)|trace_state
set_option maxRecDepth 100000 in
def do_first (b off:Nat) (pl:Vl) (w:World) {Q:World->Prop} (hQ : ∀ w2,Q w2->OnceQ b off w2)
  (h0:w.cell? ⟨b,off,none⟩=some (.int .u32 0)) (h1:w.cell? ⟨b,off+1,none⟩=some (.int .i32 0))
  (f1:w.frozen? ⟨b,off+1,none⟩=false)
  (hb:Calls prog 232 #[pl] (w.setCell ⟨b,off+1,none⟩ (.int .i32 1)) fun e w2=>e = .returned (.tuple #[])/\Q w2) :
  Calls prog 231 #[.pointer (some ⟨b,off,none⟩),.func (.func 232) #[pl] #[]] w fun e w'=>e = .returned (.tuple #[]) /\
   ∃ w2,Q w2/\w'=(w2.drew.setCell ⟨b,off,none⟩ (.int .u32 1)).setCell ⟨b,off+1,none⟩ (.int .i32 0):=by
 have hnot : ∀ (x:Bool) (w:World),(Op.unary .not (.bool x)).run prog w = .ok (.bool (!x)) w:=fun _ _=>rfl
 go_enter Tryz.func231,Tryz.ntmps231
 go_wp2_with (go_at_call 249;refine (load_b ⟨b,off,none⟩ 0 _ h0).mono ?_;rintro e w' ⟨rfl,rfl⟩)
 refine (slow_k b off pl _ hQ h0 h1 f1 hb).mono ?_;rintro e w' ⟨rfl,w2,hq,rfl⟩
 go_wp2
 go_end0
 exact ⟨rfl,w2,hq,rfl⟩
def onceFst (C:ah) (b off:Nat) (pl:Vl) (h:ae):aY:=
 match stL b (off+1) [.int .i32 1] h with
 |some h1=>match C 232 [pl] h1 with
  |some (.tuple ⟨[]⟩,h2)=>match h2.get b with
   |some k2=>match k2[off]?,k2[off+1]? with
    |some (.int .u32 _),some (.int .i32 1)=>match stL b off [.int .u32 1] h2 with
     |some h3=>match stL b (off+1) [.int .i32 0] h3 with
      |some h4=>some (.tuple #[],h4)
      |none=>none
     |none=>none
    |_,_=>none
   |none=>none
  |_=>none
 |none=>none
def onceS (C:ah) (args:List Vl) (h:ae):aY:=
 match args with
 | [.pointer (some ⟨b,off,none⟩),.func (.func 232) ⟨[pl]⟩ ⟨[]⟩]=>match h.get b with
   |some k=>match k[off]?,k[off+1]? with
    |some (.int .u32 d),some (.int .i32 m)=>if d=0 then (if m=0 then onceFst C b off pl h else none) else some (.tuple #[],h)
    |_,_=>none
   |none=>none
 |_=>none
structure OnceOk (C:ah) (args:List Vl) (h:ae) (b off:Nat) (pl:Vl) (k:eh) (d m:Int):Prop where
 args:args = [.pointer (some ⟨b,off,none⟩),.func (.func 232) #[pl] #[]]
 get:h.get b=some k
 c0:k[off]? = some (.int .u32 d)
 c1:k[off+1]? = some (.int .i32 m)
def uZ {C:ah} {args:List Vl} {h h':ae} {v:Vl} (e:onceS C args h=some (v,h')) : ∃ b off pl k d m,OnceOk C args h b off pl k d m/\((d≠0/\v = .tuple #[]/\h'=h)\/(d=0/\m=0/\onceFst C b off pl h=some (v,h'))):=by
 unfold onceS at e;split at e
 ·rename_i b off pl;split at e
  ·rename_i k hk;split at e
   ·rename_i d m h0 h1;refine ⟨b,off,pl,k,d,m,⟨rfl,hk,h0,h1⟩,?_⟩;split at e
    ·rename_i hd;split at e
     ·rename_i hm;exact .inr ⟨hd,hm,e⟩
     ·cases e
    ·rename_i hd;cases e;exact .inl ⟨hd,rfl,rfl⟩
   ·cases e
  ·cases e
 ·cases e
def qh {C:ah} {b off:Nat} {pl v:Vl} {h h':ae} (e:onceFst C b off pl h=some (v,h')):v = .tuple #[] /\ ∃ h1 h2 h3 k2 y,stL b (off+1) [.int .i32 1] h=some h1/\C 232 [pl] h1=some (.tuple #[],h2)/\h2.get b=some k2/\k2[off]? = some (.int .u32 y)/\k2[off+1]? = some (.int .i32 1)/\stL b off [.int .u32 1] h2=some h3/\stL b (off+1) [.int .i32 0] h3=some h':=by
 unfold onceFst at e;split at e
 ·rename_i h1 e1;split at e
  ·rename_i h2 e2;split at e
   ·rename_i k2 e3;split at e
    ·rename_i y e4 e5;split at e
     ·rename_i h3 e6;split at e
      ·rename_i h4 e7;cases e;exact ⟨rfl,h1,h2,h3,k2,y,e1,e2,e3,e4,e5,e6,e7⟩
      ·cases e
     ·cases e
    ·cases e
   ·cases e
  ·cases e
 ·cases e
def mV {μ:Mu} {h:ae} {w:World} (S:cD μ h w) {b off:Nat} {k:eh} {kd:IntKind} {n:Int} (hg:h.get b=some k) (hc:k[off]? = some (.int kd n)) {L:Abs.Loc} (hL:μ b=some L):w.cell? ⟨L.blk,L.off+off,none⟩=some (.int kd n):=by obtain ⟨L',c',h1,h2,h3⟩:=S.cell hg hc rfl;rw [hL] at h1;cases h1;rw [h2,h3.int]
set_option maxRecDepth 100000 in
set_option maxHeartbeats 1000000 in
def zD {C:ah} (hC:bk prog C) (hsz:232<prog.funcs.size):bU prog 231 (onceS C):=by
 refine ⟨Nat.lt_of_succ_lt hsz,?_,?_,?_⟩
 ·intro args h v h' e;obtain ⟨b,off,pl,k,d,m,ok,⟨_,_,rfl⟩|⟨_,_,e⟩⟩:=uZ e
  ·exact bH.refl _
  ·obtain ⟨_,h1,h2,h3,k2,y,e1,e2,e3,e4,e5,e6,e7⟩:=qh e;exact (bH.pG e1).trans (bH.trans (hC.grow _ _ _ _ _ e2) ((bH.pG e6).trans (bH.pG e7)))
 ·intro args h v h' e ha hb;obtain ⟨b,off,pl,k,d,m,ok,⟨_,rfl,rfl⟩|⟨_,_,e⟩⟩:=uZ e
  ·exact ⟨rfl,hb⟩
  ·obtain ⟨rfl,h1,h2,h3,k2,y,e1,e2,e3,e4,e5,e6,e7⟩:=qh e;rw [ok.args] at ha;have hp:cT h.next [pl]=true:=by simp only [cT,b9,DD] at ha |-;simp_all
   have b1:=aE.stL hb (rfl:cT h.next [.int .i32 1]=true) e1;have n1:=tE e1;obtain ⟨_,b2⟩:=hC.bd _ _ _ _ _ e2 (by rw [n1];exact hp) b1;have b3:=aE.stL b2 (rfl:cT h2.next [.int .u32 1]=true) e6;exact ⟨rfl,aE.stL b3 (rfl:cT h3.next [.int .i32 0]=true) e7⟩
 ·intro args h v h' e ha hbd hg μ w args' S hf r;obtain ⟨b,off,pl,k,d,m,ok,hh⟩:=uZ e;obtain ⟨ea,gk,c0,c1⟩:=ok;subst ea
  match args',r with
  | [],r=>have:=r.1;simp at this
  | [_],r=>have:=r.1;simp at this
  |_::_::_::_,r=>have:=r.1;simp at this
  | [x',y'],r=>
  obtain ⟨L,hL,rfl⟩:=jy r.head;have hy : ∃ pl',y' = .func (.func 232) #[pl'] #[]/\aF μ pl pl':=by
   have q:=r.tail.head;cases q with
   |flat h=>exact absurd h (by simp [flat])
   | @func f g a b c d hf h1 h2 h3 h4=>
     have hg:g = .func 232:=by cases g<;>simp [FRel] at hf;rw [hf]
     subst hg;obtain ⟨bl⟩:=b;obtain ⟨dl⟩:=d
     match dl,h3 with
     | [],_=>
       match bl,h1 with
       | [z],_=>exact ⟨z,rfl,h2 0 _ _ rfl rfl⟩
  obtain ⟨pl',rfl,hpl⟩:=hy;have w0:=mV S gk c0 hL;have w1:=mV S gk c1 hL;rcases hh with ⟨hd,rfl,rfl⟩|⟨rfl,rfl,e⟩
  ·refine .inl ⟨f231,Tryz.func231,by kernel_rfl,by kernel_rfl,(do_done L.blk (L.off+off) _ d (by simpa using hd) w w0).mono ?_⟩;rintro e w' ⟨rfl,rfl⟩;exact ⟨μ,_,rfl,S,.cq,.tuple rfl (by intro i x y h;simp at h)⟩
  ·obtain ⟨rfl,h1,h2,h3,k2,y,e1,e2,e3,e4,e5,e6,e7⟩:=qh e;have i32 : ∀ n:Int,aT μ [.int .i32 n] [.int .i32 n]:=fun n => .cons (.flat rfl) (.nil μ);obtain ⟨L1,wa,hL1,s1,S1,St1⟩:=hU (P:=prog) S (aT.cons (.flat rfl) (.nil μ):aT μ [.int .i32 1] [.int .i32 1]) e1;rw [hL] at hL1;cases hL1;obtain ⟨rfl,f1⟩:=nw rfl w1 s1;have n1:=tE e1;have n3:=tE e6;have n4:=tE e7;have b1:=aE.stL hbd (rfl:cT h.next [.int .i32 1]=true) e1;have hp:cT h.next [pl]=true:=by simp only [cT,b9,DD] at ha |-;simp_all
   have gr1:=bH.pG e1;have hrun:=hC.run 232 [pl] h1 _ h2 e2 hsz (by rw [n1];exact hp) b1 (by rw [gr1.2.1];exact hg) μ _ [pl'] S1 (fun b h5 h6=>hf b (by omega) (by omega)) (.cons hpl (.nil μ));have hc:=hrun.fE Tryz.func232 (by kernel_rfl) (by kernel_rfl);have hlt:b<h1.next:=by rw [n1];exact h.aL gk
   refine .inl ⟨f231,Tryz.func231,by kernel_rfl,by kernel_rfl,(do_first L.blk (L.off+off) pl' w (Q:=fun w2 => ∃ μ',cD μ' h2 w2/\ct μ h1 (w.setCell ⟨L.blk,L.off+off+1,none⟩ (.int .i32 1)) μ' h2 w2) ?_ w0 w1 f1 (hc.mono ?_)).mono ?_⟩
   ·rintro w2 ⟨μ',S2,St2⟩;have hL2:μ' b=some L:=by rw [St2.ext b (.inl hlt)];exact hL
    have a0:=mV S2 e3 e4 hL2;have a1:=mV S2 e3 e5 hL2;obtain ⟨L',w3,g1,g2,_,_⟩:=hU (P:=prog) S2 (aT.cons (.flat rfl) (.nil μ'):aT μ' [.int .u32 1] [.int .u32 1]) e6;rw [hL2] at g1;cases g1;obtain ⟨_,q0⟩:=nw rfl a0 g2;have hb2:h2.n0<=b:=by
     unfold stL at e6;rw [e3] at e6;simp only at e6;split at e6
     ·rename_i hc;simp only [DD,DR] at hc;exact hc.1.1
     ·cases e6
    have e8:stL b (off+1) [.int .i32 0] h2=some (h2.set b (splice k2 (off+1) [.int .i32 0])):=by have hlen:=(DZ.1 e5).1;unfold stL;rw [e3];simp only;rw [DH];simp only [DD,DR];exact ⟨⟨hb2,by show off+1+1<=k2.length;omega⟩,rfl⟩
    obtain ⟨L',w3,g1,g3,_,_⟩:=hU (P:=prog) S2 (aT.cons (.flat rfl) (.nil μ'):aT μ' [.int .i32 0] [.int .i32 0]) e8;rw [hL2] at g1;cases g1;obtain ⟨_,q1⟩:=nw rfl a1 g3;exact ⟨⟨_,a0⟩,q0,a1,q1⟩
   ·rintro e w2 ⟨μ',v',rfl,S2,St2,hv⟩;refine ⟨?_,μ',S2,St2⟩;cases hv with
    |flat h=>exact absurd h (by decide)
    | @tuple a b h1 h2=>
      obtain ⟨bl⟩:=b
      match bl,h1 with
      | [],_=>rfl
   ·rintro e w' ⟨rfl,w2,⟨μ',S2,St2⟩,rfl⟩;have hL2:μ' b=some L:=by rw [St2.ext b (.inl hlt)];exact hL
    have Sd:cD μ' h2 w2.drew:=S2.world rfl;have a0:=mV Sd e3 e4 hL2;have a1:=mV Sd e3 e5 hL2;obtain ⟨L',w3,g1,g2,S3,St3⟩:=hU (P:=prog) Sd (aT.cons (.flat rfl) (.nil μ'):aT μ' [.int .u32 1] [.int .u32 1]) e6;rw [hL2] at g1;cases g1;obtain ⟨rfl,_⟩:=nw rfl a0 g2;obtain ⟨L',w4,g1,g3,S4,St4⟩:=hU (P:=prog) S3 (aT.cons (.flat rfl) (.nil μ'):aT μ' [.int .i32 0] [.int .i32 0]) e7;rw [hL2] at g1;cases g1;have a2:=(World.cell?_setCell_other w2.drew ⟨L.blk,L.off+off,none⟩ ⟨L.blk,L.off+(off+1),none⟩ (.int .u32 1) (by simp)).trans a1;obtain ⟨rfl,_⟩:=nw rfl a2 g3;refine ⟨μ',_,rfl,S4,St1.trans (St2.trans ((ct.refl (μ:=μ') (h:=h2) (w:=w2) (w':=w2.drew) rfl rfl rfl rfl).trans (St3.trans St4))),.tuple rfl (by intro i x y h;simp at h)⟩
end
end Go.Proofs.YtdhpgacmgebjdaaGreatDoor
