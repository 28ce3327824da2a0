/-
  A part of the proof, shortened by a program.
  Conditions: as each theorem states.
-/
import Derived.Test.YtdhpgacmgebjdaaGreatDoorG1
set_option linter.all false
namespace Go.Abs
noncomputable section
section ops
variable {P:Program} {μ:Mu} {h:ae} {w:World}
def make_sound {t:TypeId} {l l' c c' r:Vl} {h':ae} (s:cD μ h w) (hf:fi μ h h') (hl:aF μ l l') (hc:aF μ c c') (e:makeA P t l c h=some (r,h')) :
  ∃ μ' r' w',(Instr.makeSlice t l' c').run P w = .ok r' w'/\cD μ' h' w'/\ct μ h w μ' h' w'/\aF μ' r r':=by
 unfold makeA at e;cases hu:P.underlying t with
 |none=>rw [show elemT P t=none from by simp [elemT,hu]] at e;cases e
 |some d=>
  cases d with
  |slice el=>
   rw [show elemT P t=some el from by simp [elemT,hu]] at e;split at e
   ·rename_i _ _ _ l c heq;cases heq;rw [hl.int,hc.int];split at e
    ·rename_i n by_ z hn hb hz;split at e
     ·rename_i hcond;simp only [DD,DR] at hcond;obtain ⟨⟨⟨⟨⟨⟨h0,h1⟩,h2⟩,h3⟩,hfl⟩,hzn⟩,hpos⟩:=hcond;simp only [DA,DF] at e;obtain ⟨rfl,rfl⟩:=e;obtain ⟨i,hi,hin⟩:=mG hn;have hib:i.bytes=by_:=by simp only [yJ,hi,Option.map_some,DA] at hb;exact hb
      have wl:IntKind.i64.wrap l=l:=IntWalk.i64_in _ (by omega);have wc:IntKind.i64.wrap c=c:=IntWalk.i64_in _ (by omega);have hz1:dJ z.cells.toList c.toNat=(List.range (c.toNat*n)).map fun i=>z.cells[i%z.cells.size]! := by rw [<-hzn,mA z.cells (by omega)]
      obtain ⟨μ',w',hrun,hS,hSt,L,hL,hB,hO,_⟩:=kC (P:=P) s hf (aT.gQ (μ:=μ) (l:=dJ z.cells.toList c.toNat) (by simp only [bD,DQ,dJ,HV] at hfl |-;rintro x ⟨_,_,hx⟩;exact hfl x hx)) el
      have harr:(Array.range (c.toNat*n)).map (fun i=>z.cells[i%z.cells.size]!)=(dJ z.cells.toList c.toNat).toArray:=by apply IJ;rw [hz1];simp
      refine ⟨μ',.slice (some ⟨w.heap.size,0,none⟩) l.toNat c.toNat,w',?_,hS,hSt,?_⟩
      ·have hlarge:(decide (c<0)||decide ((i.bytes:Int)*c>2^48))=false:=by
        rw [hib];simp only [IU,HC];refine ⟨by omega,?_⟩;have:(2:Int)^48=281474976710656:=by decide
        omega
       unfold Instr.makeSlice;simp only [Sem.run_bind,run_underlying hu,Result.andThen_ok,asInt,asIntOf,Sem.run_pure,ep w hi,wl,wc];rw [hlarge];have hlt:decide (l<0)=false:=by simp;omega
       have hgt:decide (l>c)=false:=by simp;omega
       simp only [hlt,hgt,Bool.or_self,DB,DS,Sem.run_bind,run_askRoom,Result.andThen_ok,cS w hn];by_cases hcz:c.toNat*n=0
       ·have hr0:Array.range (c.toNat*n) = #[]:=by rw [hcz];rfl
        have hnil:dJ z.cells.toList c.toNat = []:=by rw [hz1,hcz];rfl
        rw [hnil] at hrun;rw [DH hcz,hr0];simp [hrun]
       ·rw [DL hcz];simp only [Sem.run_bind,fP w hz,Result.andThen_ok,Sem.run_pure,harr,hrun]
      ·have:=aF.slice (off:=0) (len:=l.toNat) (cap:=c.toNat) hL;rw [hB,hO] at this;exact this
     ·cases e
    ·cases e
   ·cases e
  |_=>rw [show elemT P t=none from by simp [elemT,hu]] at e;cases e
def sW (μ:Mu) (x y:Option Vl):Prop:=(x=none/\y=none) \/ ∃ a b,x=some a/\y=some b/\aF μ a b
def xe {d y n:Nat} {x x':Option Vl} (hx:sW μ x x') (e:boundA d y x=some n):x'=x:=by
 rcases hx with ⟨rfl,rfl⟩|⟨a,b,rfl,rfl,hv⟩
 ·rfl
 ·unfold boundA at e;split at e
  ·rename_i heq;cases heq
  ·rename_i k i heq;cases heq;rw [hv.int]
  ·cases e
def jv {len cap:Nat} {lo hi mx lo' hi' mx':Option Vl} {r:Nat×Nat×Nat} (h1:sW μ lo lo') (h2:sW μ hi hi') (h3:sW μ mx mx') (e:boundsA len cap lo hi mx=some r) :
  lo'=lo/\hi'=hi/\mx'=mx:=by
 unfold boundsA at e;split at e
 ·rename_i m hm;split at e
  ·cases e
  ·split at e
   ·rename_i h hh;split at e
    ·rename_i l hl;exact ⟨xe h1 hl,xe h2 hh,xe h3 hm⟩
    ·cases e
   ·cases e
 ·cases e
def gY {d y n:Nat} {v:Vl} {code:BoundsCode} (e:boundA d y (some v)=some n):(Instr.sliceBound v y code).run P w = .ok n w:=by
 unfold boundA at e;split at e
 ·rename_i heq;cases heq
 ·rename_i k i heq;cases heq;split at e
  ·rename_i hc;cases e;simp [Instr.sliceBound,asIntOf,hc]
  ·cases e
 ·cases e
def nF {isSl:Bool} {len cap:Nat} {lo hi mx:Option Vl} {r:Nat×Nat×Nat} (e:boundsA len cap lo hi mx=some r) :
  (Instr.sliceBounds isSl len cap lo hi mx).run P w = .ok r w:=by
 unfold boundsA at e;split at e
 ·rename_i m hm;split at e
  ·cases e
  ·rename_i hne;split at e
   ·rename_i h hh;split at e
    ·rename_i l hl;cases e;unfold Instr.sliceBounds;cases mx with
     |none=>
      simp only [boundA,DA] at hm;subst hm;cases hi with
      |none=>
       simp only [boundA,DA] at hh;subst hh;cases lo with
       |none=>simp only [boundA,DA] at hl;subst hl;simp
       |some v=>simp [gY hl]
      |some u=>
       cases lo with
       |none=>simp only [boundA,DA] at hl;subst hl;simp [gY hh]
       |some v=>simp [gY hl,gY hh]
     |some t=>
      cases hi with
      |none=>exact (hne _ rfl rfl).elim
      |some u=>
       cases lo with
       |none=>simp only [boundA,DA] at hl;subst hl;simp [gY hh,gY hm]
       |some v=>simp [gY hl,gY hh,gY hm]
    ·cases e
   ·cases e
 ·cases e
def uC {len cap:Nat} {lo hi mx:Option Vl} {l h m:Nat} (hlc:len<=cap) (e:boundsA len cap lo hi mx=some (l,h,m)):l<=h/\h<=m/\(mx=none->m=cap):=by
 have b : ∀ {d y n:Nat} {x:Option Vl},boundA d y x=some n->(x=none/\n=d)\/n<=y:=by
  intro d y n x e;unfold boundA at e;split at e
  ·cases e;exact .inl ⟨rfl,rfl⟩
  ·split at e
   ·rename_i hc;cases e;right;omega
   ·cases e
  ·cases e
 unfold boundsA at e;split at e
 ·rename_i m' hm;split at e
  ·cases e
  ·rename_i hne;split at e
   ·rename_i h' hh;split at e
    ·rename_i l' hl;cases e;have hm':m=cap\/mx≠none:=by
      cases mx with
      |none=>simp only [boundA,DA] at hm;exact .inl hm.symm
      |some v=>right;simp
     refine ⟨?_,?_,?_⟩
     ·rcases b hl with ⟨_,rfl⟩|h1
      ·exact FL _
      ·exact h1
     ·rcases b hh with ⟨h0,rfl⟩|h1
      ·subst h0;cases mx with
       |none=>simp only [boundA,DA] at hm;omega
       |some v=>exact (hne _ rfl rfl).elim
      ·exact h1
     ·intro h0;subst h0;simp only [boundA,DA] at hm;exact hm.symm
    ·cases e
   ·cases e
 ·cases e
def ya {len cap cap':Nat} {lo hi:Option Vl} {l h m:Nat} (hc:cap<=cap') (e:boundsA len cap lo hi none=some (l,h,m)):boundsA len cap' lo hi none=some (l,h,cap'):=by
 have b : ∀ {d y y' n:Nat} {x:Option Vl},y<=y'->boundA d y x=some n->boundA d y' x=some n:=by
  intro d y y' n x hy e;unfold boundA at e |-;split at e
  ·exact e
  ·split at e
   ·rename_i hc;rw [DH (by omega)];exact e
   ·cases e
  ·cases e
 have hn : ∀ c,boundA c c none=some c:=fun _=>rfl;unfold boundsA at e |-;rw [hn] at e |-;cases hi with
 |none=>
  simp only at e |-;have hl:boundA len cap none=some len:=rfl;have hl':boundA len cap' none=some len:=rfl;rw [hl] at e;rw [hl'];simp only at e |-;split at e
  ·cases e;rfl
  ·cases e
 |some u=>
  simp only at e |-;split at e
  ·rename_i h' hh;rw [b hc hh];simp only;split at e
   ·cases e;rfl
   ·cases e
  ·cases e
def bounds_le' {len cap:Nat} {lo hi:Option Vl} {u:Vl} {l h m:Nat} (e:boundsA len cap lo hi (some u)=some (l,h,m)):l<=h/\h<=m/\m<=cap:=by
 have b : ∀ {d y n:Nat} {x:Option Vl},boundA d y x=some n->(x=none/\n=d)\/n<=y:=by
  intro d y n x e;unfold boundA at e;split at e
  ·cases e;exact .inl ⟨rfl,rfl⟩
  ·split at e
   ·rename_i hc;cases e;right;omega
   ·cases e
  ·cases e
 unfold boundsA at e;split at e
 ·rename_i m' hm;split at e
  ·cases e
  ·rename_i hne;split at e
   ·rename_i h' hh;split at e
    ·rename_i l' hl;cases e;refine ⟨?_,?_,by rcases b hm with ⟨q,_⟩|h1;exact absurd q (by simp);exact h1⟩
     ·rcases b hl with ⟨_,rfl⟩|h1
      ·exact FL _
      ·exact h1
     ·rcases b hh with ⟨h0,rfl⟩|h1
      ·subst h0;exact (hne _ rfl rfl).elim
      ·exact h1
    ·cases e
   ·cases e
 ·cases e
def bounds_capS {len cap cap':Nat} {lo hi:Option Vl} {u:Vl} {r:Nat×Nat×Nat} (hc:cap<=cap') (e:boundsA len cap lo hi (some u)=some r):boundsA len cap' lo hi (some u)=some r:=by
 have hm : ∀ n,boundA cap cap (some u)=some n->boundA cap' cap' (some u)=some n:=by
  intro n e;unfold boundA at e |-;cases u with
  |int k i=>
   simp only at e |-;split at e
   ·rename_i h;rw [DH ⟨h.1,by omega⟩];exact e
   ·cases e
  |_=>cases e
 unfold boundsA at e |-;cases hb:boundA cap cap (some u) with
 |none=>rw [hb] at e;cases e
 |some m=>
  rw [hb] at e;rw [hm m hb];exact e
def Ah {t el:TypeId} {size:Nat} {x x' r:Vl} {lo hi mx lo' hi' mx':Option Vl} (hu:P.underlying t=some (.slice el)) (hz:cQ P el=some size)
  (hx:aF μ x x') (h1:sW μ lo lo') (h2:sW μ hi hi') (h3:sW μ mx mx') (hstr : ∀ s,x ≠ .string s) (e:sliceSl size x lo hi mx=some r) :
  ∃ r',(Instr.slice t x' lo' hi' mx').run P w = .ok r' w/\aF μ r r':=by
 have run : ∀ (a:Option Addr) (len cap:Nat) {l h m:Nat},boundsA len cap lo' hi' mx'=some (l,h,m) ->
   (Instr.slice t (.slice a len cap) lo' hi' mx').run P w = .ok (.slice (if m=l then a else a.map (·.add (l*size))) (h-l) (m-l)) w:=by
  intro a len cap l h m hb;unfold Instr.slice;simp [run_underlying hu,nF (P:=P) (w:=w) hb,cS w hz]
 unfold sliceSl at e;split at e
 ·rename_i len cap;split at e
  ·rename_i l h m hb;cases e;obtain ⟨rfl,rfl,rfl⟩:=jv h1 h2 h3 hb;rw [hx.bG rfl];exact ⟨_,run _ _ _ hb,by
    have:(if m=l then (none:Option Addr) else Option.map (fun (a:Addr)=>a.add (l*size)) none)=none:=by split<;>rfl
    rw [this];exact .flat rfl⟩
  ·cases e
 ·rename_i b off len cap;split at e
  ·rename_i l h m hb;cases e;obtain ⟨rfl,rfl,rfl⟩:=jv h1 h2 h3 hb;cases hx with
   |flat h=>simp [flat] at h
   |slice hL=>
    rename_i L;refine ⟨_,run _ _ _ hb,?_⟩;by_cases hm:m=l
    ·simp only [hm,DV];exact .slice hL
    ·simp only [hm,DS,Option.map_some,Addr.add_lit];have:=aF.slice (off:=off+l*size) (len:=h-l) (cap:=m-l) hL;rw [<-Nat.add_assoc] at this;exact this
  ·cases e
 ·rename_i b off s len cap;split at e
  ·rename_i u;split at e
   ·rename_i l h m hb;split at e
    ·rename_i hs;obtain ⟨hs,hs0⟩:=hs;subst hs;obtain ⟨rfl,rfl,rfl⟩:=jv h1 h2 h3 hb;obtain ⟨k1,k2,k9⟩:=bounds_le' hb;cases hx with
     |flat h=>simp [flat] at h
     |pU hL hl hc hm' g1 g2=>
      rename_i cap' L;have hb':=bounds_capS hc hb;refine ⟨_,run _ _ _ hb',?_⟩;by_cases hm:m=l
      ·rw [DH hm] at e;cases e;obtain rfl:h=m:=by omega
       subst hm;simp only [DV,HZ];exact .jQ hL
      ·rw [DL hm] at e;cases e;simp only [hm,DS,Option.map_some,Addr.add_lit];have:=aF.slice (off:=off+l*s) (len:=h-l) (cap:=m-l) hL;rw [<-Nat.add_assoc] at this;exact this
     |jQ hL=>
      rename_i O L;have hm0:m=0:=by omega
      obtain rfl:m=0:=hm0;obtain rfl:h=0:=by omega
      obtain rfl:l=0:=by omega
      rw [DH rfl] at e;cases e;refine ⟨_,run _ _ _ hb,?_⟩;simp only [DV];exact .jQ hL
     |zA=>exact absurd rfl hs0
    ·cases e
   ·cases e
  ·split at e
   ·rename_i l h m hb;split at e
    ·rename_i hs;obtain ⟨hs,hs0⟩:=hs;subst hs;cases e;obtain ⟨rfl,rfl,rfl⟩:=jv h1 h2 h3 hb;cases hx with
     |flat h=>simp [flat] at h
     |pU hL hl hc hm' g1 g2=>
      rename_i cap' L;have hb':=ya hc hb;obtain ⟨k1,k2,k3⟩:=uC hl hb;have k3:=k3 rfl;subst k3;refine ⟨_,run _ _ _ hb',?_⟩;by_cases hm:cap'=l
      ·simp only [hm,DV];obtain rfl:m=l:=by omega
       obtain rfl:h=m:=by omega
       rw [HZ];exact .jQ hL
      ·simp only [hm,DS,Option.map_some,Addr.add_lit];have e1:off+l*s+(m-l)*s=off+m*s:=by rw [F0,<-Nat.add_mul];congr 2;omega
       have e2:off+l*s+(cap'-l)*s=off+cap'*s:=by rw [F0,<-Nat.add_mul];congr 2;omega
       have:=aF.pU (off:=off+l*s) (len:=h-l) (cap:=m-l) (cap':=cap'-l) (s:=s) hL (by omega) (by omega) (by unfold maxLen at hm' |-;omega) (by omega) (by omega);rw [<-Nat.add_assoc] at this;exact this
     |jQ hL=>
      rename_i O L;obtain ⟨k1,k2,k3⟩:=uC (DG _) hb;have k3:=k3 rfl;subst k3;obtain rfl:h=0:=by omega
      obtain rfl:l=0:=by omega
      refine ⟨_,run _ _ _ hb,?_⟩;simp only [DV];exact .jQ hL
     |zA=>exact absurd rfl hs0
    ·split at e
     ·rename_i hz0;obtain ⟨hz1,hz2,hz3⟩:=hz0;subst hz1 hz2 hz3;cases e;obtain ⟨rfl,rfl,rfl⟩:=jv h1 h2 h3 hb;obtain ⟨k1,k2,k3⟩:=uC (DG _) hb;have k3:=k3 rfl;subst k3;obtain rfl:h=0:=by omega
      obtain rfl:l=0:=by omega
      cases hx with
      |flat h=>simp [flat] at h
      |pU hL hl hc hm' g1 g2=>
       rename_i cap' L;have hb':=ya hc hb;refine ⟨_,run _ _ _ hb',?_⟩;by_cases hm:cap'=0
       ·subst hm;simp only [DV,HZ];exact .jQ hL
       ·simp only [hm,DS,Option.map_some,Addr.add_lit,HM,Nat.add_zero,Nat.sub_zero];exact .pU hL hl hc hm' g1 g2
      |jQ hL=>
       refine ⟨_,run _ _ _ hb,?_⟩;simp only [DV];exact .jQ hL
      |zA=>
       refine ⟨_,run _ _ _ hb,?_⟩;simp only [DV];exact .zA
     ·cases e
   ·cases e
 ·exact absurd rfl (hstr _)
 ·cases e
def qv {n size:Nat} {x x' r:Vl} {lo hi mx lo' hi' mx':Option Vl} (hx:aF μ x x') (h1:sW μ lo lo') (h2:sW μ hi hi') (h3:sW μ mx mx')
  (e:sliceArr n size x lo hi mx=some r) :
  ∃ a l h m,x' = .pointer (some a)/\lo'=lo/\hi'=hi/\mx'=mx/\boundsA n n lo hi mx=some (l,h,m)/\aF μ r (.slice (some (if m=l then a else a.add (l*size))) (h-l) (m-l)):=by
 unfold sliceArr at e;split at e
 ·rename_i b off;split at e
  ·rename_i l h m hb;cases e;obtain ⟨e1,e2,e3⟩:=jv h1 h2 h3 hb;obtain ⟨L,hL,rfl⟩:=jy hx;refine ⟨_,l,h,m,rfl,e1,e2,e3,hb,?_⟩;by_cases hm:m=l
   ·simp only [hm,DV];exact .slice hL
   ·simp only [hm,DS,Addr.add_lit];have:=aF.slice (off:=off+l*size) (len:=h-l) (cap:=m-l) hL;rw [<-Nat.add_assoc] at this;exact this
  ·cases e
 ·cases e
def slice_sound {t:TypeId} {x x' r:Vl} {lo hi mx lo' hi' mx':Option Vl} (hx:aF μ x x') (h1:sW μ lo lo') (h2:sW μ hi hi') (h3:sW μ mx mx') (e:sliceA P t x lo hi mx=some r) :
  ∃ r',(Instr.sliceAt t x' lo' hi' mx').run P w = .ok r' w/\aF μ r r':=by
 unfold sliceA at e;split at e
 ·rename_i n el hu;simp only [DU] at e;obtain ⟨z,hz,e⟩:=e;obtain ⟨a,l,h,m,rfl,rfl,rfl,rfl,hb,hv⟩:=qv hx h1 h2 h3 e;exact ⟨_,by simp [Instr.sliceAt,run_underlying hu,Instr.sureAddr,nF (P:=P) (w:=w) hb,cS w hz],hv⟩
 ·rename_i arr hu;split at e
  ·rename_i n el ha;simp only [DU] at e;obtain ⟨z,hz,e⟩:=e;obtain ⟨a,l,h,m,rfl,rfl,rfl,rfl,hb,hv⟩:=qv hx h1 h2 h3 e;exact ⟨_,by simp [Instr.sliceAt,Instr.slice,run_underlying hu,run_underlying ha,asAddr,nF (P:=P) (w:=w) hb,cS w hz],hv⟩
  ·cases e
 ·rename_i el hu;split at e
  ·cases e
  ·rename_i hns;simp only [DU] at e;obtain ⟨z,hz,e⟩:=e;obtain ⟨r',hrun,hv⟩:=Ah (P:=P) (w:=w) hu hz hx h1 h2 h3 (fun s h=>hns s h) e;exact ⟨r',by simpa [Instr.sliceAt,run_underlying hu] using hrun,hv⟩
 ·rename_i hu;split at e
  ·rename_i sb;unfold sliceSl at e;simp only at e;split at e
   ·cases e
   ·split at e
    ·rename_i l h m hb;cases e;obtain ⟨rfl,rfl,rfl⟩:=jv h1 h2 h3 hb;rw [hx.bG rfl];exact ⟨_,by simp [Instr.sliceAt,Instr.slice,run_underlying hu,nF (P:=P) (w:=w) hb],.flat rfl⟩
    ·cases e
  ·cases e
 ·cases e
def addP_rel {v v' r:Vl} {n:Nat} (hv:aF μ v v') (e:aC v n=some r) : ∃ a,v' = .pointer (some a)/\aF μ r (.pointer (some (a.add n))):=by
 unfold aC at e;split at e
 ·rename_i b off;cases e;obtain ⟨L,hL,rfl⟩:=jy hv;refine ⟨_,rfl,?_⟩;rw [Addr.add_lit];have:=aF.ptr (off:=off+n) hL;rw [<-Nat.add_assoc] at this;exact this
 ·cases e
def Am {t:TypeId} {x x' r:Vl} {i:Nat} (hx:aF μ x x') (e:fieldAtA P t x i=some r) : ∃ r',(Instr.fieldAt t x' i).run P w = .ok r' w/\aF μ r r':=by
 unfold fieldAtA at e;split at e
 ·rename_i fs hu;split at e
  ·rename_i f hf;split at e
   ·rename_i n hn;split at e
    ·cases e
    ·rename_i h0;obtain ⟨a,rfl,hv⟩:=addP_rel hx e;refine ⟨_,?_,hv⟩;simp [Instr.fieldAt,run_underlying hu,hf,Instr.sureAddr,fieldPlace,cS w hn,h0]
   ·cases e
  ·cases e
 ·cases e
def Aa {t:TypeId} {x x' ix ix' r:Vl} (hx:aF μ x x') (hi:aF μ ix ix') (e:indexAtA P t x ix=some r) : ∃ r',(Instr.indexAt t x' ix').run P w = .ok r' w/\aF μ r r':=by
 unfold indexAtA at e;split at e
 ·rename_i n el hu;simp only [DU] at e;obtain ⟨z,hz,e⟩:=e;unfold idxA at e;split at e
  ·rename_i k i;rw [hi.int];split at e
   ·rename_i hc;obtain ⟨a,rfl,hv⟩:=addP_rel hx e;refine ⟨_,?_,hv⟩;simp [Instr.indexAt,asIntOf,run_underlying hu,Instr.sureAddr,hc,cS w hz]
   ·cases e
  ·cases e
 ·rename_i el hu;simp only [DU] at e;obtain ⟨z,hz,e⟩:=e;unfold idxS at e;split at e
  ·rename_i b off sp len cap k i;rw [hi.int];split at e
   ·rename_i hc;cases e;have main : ∀ (L:Loc) (c':Nat),μ b=some L->x' = .slice (some ⟨L.blk,L.off+off,none⟩) len c' -> ∃ r',(Instr.indexAt t x' (.int k i)).run P w = .ok r' w/\aF μ (ptr b (off+i.toNat*z)) r':=by
     rintro L c' hL rfl;refine ⟨.pointer (some ⟨L.blk,L.off+off+i.toNat*z,none⟩),?_,?_⟩
     ·simp [Instr.indexAt,asIntOf,run_underlying hu,hc,cS w hz,Addr.add_lit]
     ·have:=aF.ptr (off:=off+i.toNat*z) hL;rw [<-Nat.add_assoc] at this;exact this
    cases hx with
    |flat h=>simp [flat] at h
    |slice h=>exact main _ _ h rfl
    |pU h=>exact main _ _ h rfl
    |jQ h=>simp at hc;omega
    |zA=>simp at hc;omega
   ·cases e
  ·cases e
 ·cases e
def yO {t:TypeId} {cs cs':Array Vl} {off:Nat} {r:Vl} (hc:aT μ cs.toList cs'.toList) (e:pk P t cs off=some r) : ∃ r',(part t cs' off).run P w = .ok r' w/\aF μ r r':=by
 unfold pk at e;split at e
 ·rename_i n ha hs;cases e;refine ⟨.agg (cs'.extract off (off+n)),by simp [part,nc w ha,cS w hs],?_⟩;have:=(hc.drop off).take n;have e1:cs.extract off (off+n)=((cs.toList.drop off).take n).toArray:=by apply IJ;simp
  have e2:cs'.extract off (off+n)=((cs'.toList.drop off).take n).toArray:=by apply IJ;simp
  rw [e1,e2];exact .gD this
 ·rename_i n ha hs;obtain ⟨y,hy,hv⟩:=hc.get (i:=off) (by simpa using e);refine ⟨y,?_,hv⟩;have hy':cs'[off]? = some y:=by simpa using hy
  simp [part,nc w ha,hy']
 ·cases e
def field_sound {t:TypeId} {x x' r:Vl} {i:Nat} (hx:aF μ x x') (e:fieldA P t x i=some r) : ∃ r',(Instr.field t x' i).run P w = .ok r' w/\aF μ r r':=by
 unfold fieldA at e;split at e
 ·rename_i fs cs hu;split at e
  ·rename_i f hf;obtain ⟨ys,rfl,hl⟩:=hx.wP;obtain ⟨r',hrun,hv⟩:=yO (P:=P) (w:=w) hl e;exact ⟨r',by simp [Instr.field,run_underlying hu,hf,asAgg,hrun],hv⟩
  ·cases e
 ·cases e
def index_sound {t:TypeId} {x x' ix ix' r:Vl} (hx:aF μ x x') (hi:aF μ ix ix') (e:indexA P t x ix=some r) : ∃ r',(Instr.index t x' ix').run P w = .ok r' w/\aF μ r r':=by
 unfold indexA at e;split at e
 ·rename_i n el cs k i hu;split at e
  ·rename_i hc;simp only [DU] at e;obtain ⟨z,hz,e⟩:=e;obtain ⟨ys,rfl,hl⟩:=hx.wP;rw [hi.int];obtain ⟨r',hrun,hv⟩:=yO (P:=P) (w:=w) hl e;exact ⟨r',by simp [Instr.index,asIntOf,run_underlying hu,hc,cS w hz,hrun],hv⟩
  ·cases e
 ·rename_i s k i hu;split at e
  ·rename_i hc;simp only [DJ] at e;obtain ⟨b,hb,rfl⟩:=e;rw [hi.int,hx.bG rfl];exact ⟨_,by simp [Instr.index,asIntOf,run_underlying hu,hc,hb],.flat rfl⟩
  ·cases e
 ·cases e
def Aj {x x' r:Vl} {i:Nat} (hx:aF μ x x') (e:extractA x i=some r) : ∃ r',(Instr.extract x' i).run P w = .ok r' w/\aF μ r r':=by
 unfold extractA at e;split at e
 ·rename_i vs;obtain ⟨ys,rfl,hl⟩:=hx.Bb;obtain ⟨y,hy,hv⟩:=hl.get (i:=i) (by simpa using e);have hy':ys[i]? = some y:=by simpa using hy
  exact ⟨y,by simp [Instr.extract,hy'],hv⟩
 ·cases e
end ops
section ops
variable {P:Program} {μ:Mu} {h:ae} {w:World}
def sC {size n:Nat} {x x':Vl} {cs:List Vl} (s:cD μ h w) (hx:aF μ x x') (e:firstA size n x h=some cs) (hn : ∀ m,uq x=some m->n<=m) (P:Program) :
  ∃ cs',(∀ w',w'.heap=w.heap->(Builtin.firstCells size n x').run P w' = .ok cs'.toArray w')/\aT μ cs cs':=by
 cases x with
 |slice a len cap=>
  obtain ⟨cs',h1,h2,_⟩:=om s hx e (hn len rfl) P;exact ⟨cs',h1,h2⟩
 |string sb=>
  rw [hx.bG rfl];simp only [firstA,DA] at e;subst e;refine ⟨(sb.extract 0 n).data.toList.map fun b => .int .u8 b.toNat,?_,aT.gQ (by rw [bD,DQ];intro x hx;obtain ⟨b,_,rfl⟩:=EZ.1 hx;rfl)⟩;intro w' _;simp only [Builtin.firstCells,Sem.run_pure]
  congr 1
  apply IJ;simp
 |_=>simp [firstA] at e
def AH {x x':Vl} {m:Nat} (hx:aF μ x x') (e:uq x=some m):(Builtin.lenOf x').run P w = .ok m w:=by
 cases x with
 |slice a len cap=>
  obtain ⟨a',c',rfl,_⟩:=hx.jZ;simp only [uq,DA] at e;subst e;simp [Builtin.lenOf]
 |string sb=>
  rw [hx.bG rfl];simp only [uq,DA] at e;subst e;simp [Builtin.lenOf]
 |_=>simp [uq] at e
def mP {t tx ty el:TypeId} {i:TypeInfo} {d:TypeDesc} (hu:P.underlying t=some (.slice el)) (hx:P.underlying tx=some d) (hd:ph d=false)
  (hi:P.info? el=some i) {cK:Option Addr} {len cap m:Nat} {x:Vl} (hm:(Builtin.lenOf x).run P w = .ok m w) (hc:len+m<=cap)
  {new:List Vl} {w':World} (hf:(Builtin.firstCells i.size m x).run P w = .ok new.toArray w)
  (hs : ∀ a,cK=some a->(storeCells (a.add (len*i.size)) new).run P w = .ok () w') (hn:cK=none->w'=w) :
  (Builtin.append_ #[t,tx] ty #[.slice cK len cap,x]).run P w = .ok (.slice cK (len+m) cap) w':=by
 have hz':(match (generalizing:=false) d with | .int _=>true|_=>false)=false:=by cases d<;>first|rfl|(simp [ph] at hd;done)
 have e0:(#[t,tx]:Array TypeId)[0]? = some t:=rfl;have e1:(#[t,tx]:Array TypeId)[1]? = some tx:=rfl;have e2:(#[.slice cK len cap,x]:Array Vl)[0]? = some (.slice cK len cap):=rfl;have e3:(#[.slice cK len cap,x]:Array Vl)[1]? = some x:=rfl;unfold Builtin.append_;simp only [e0,e1,e2,e3,Sem.run_bind,run_underlying hu,run_underlying hx,Result.andThen_ok,sizeOf,ep w hi,Sem.run_pure,hz',DB,DS,hm,EG,DV];split
 ·exact absurd hd (by simp [ph])
 ·simp only [DB,DS,Sem.run_bind,hm,Result.andThen_ok,EG,DV,false_or,Sem.run_pure,hc,hf];cases cK with
  |none=>simp [hn rfl]
  |some a=>simp [hs a rfl]
def yF {t tx ty el:TypeId} {i:TypeInfo} {d:TypeDesc} (hu:P.underlying t=some (.slice el)) (hx:P.underlying tx=some d) (hd:ph d=false)
  (hi:P.info? el=some i) {cK:Option Addr} {len cap m:Nat} {x:Vl} (hm:(Builtin.lenOf x).run P w = .ok m w) (hc : ¬len+m<=cap)
  {z:Vl} {olds news:List Vl} (hz:jr P el=some z)
  (hfo:(Builtin.firstCells i.size len (.slice cK len cap)).run P w.drew = .ok olds.toArray w.drew)
  (hfn:(Builtin.firstCells i.size m x).run P w.drew = .ok news.toArray w.drew)
  (h63:len+m<=4611686018427387904) (hfit:Builtin.nextslicecap (len+m) cap*i.bytes<=281474976710656) :
  (Builtin.append_ #[t,tx] ty #[.slice cK len cap,x]).run P w =
   .ok (.slice (some ⟨w.heap.size,0,none⟩) (len+m) (grownCap w (len+m) cap el))
    { w.drew with heap:=w.heap.push (.cells ((olds++news++(Builtin.zeroCells z.cells (grownCap w (len+m) cap el-(len+m))).toList).toArray) el (0,0)) }:=by
 have hmax:IntKind.i64.max=9223372036854775807:=by decide
 have h1 : ¬(((len+m:Nat):Int)>IntKind.i64.max/\i.bytes=0):=by rw [hmax];omega
 have h2 : ¬(Builtin.nextslicecap (len+m) cap*i.bytes>2^48):=by
  have:(2:Nat)^48=281474976710656:=by decide
  omega
 have hz':(match (generalizing:=false) d with | .int _=>true|_=>false)=false:=by cases d<;>first|rfl|(simp [ph] at hd;done)
 have e0:(#[t,tx]:Array TypeId)[0]? = some t:=rfl;have e1:(#[t,tx]:Array TypeId)[1]? = some tx:=rfl;have e2:(#[.slice cK len cap,x]:Array Vl)[0]? = some (.slice cK len cap):=rfl;have e3:(#[.slice cK len cap,x]:Array Vl)[1]? = some x:=rfl;unfold Builtin.append_;simp only [e0,e1,e2,e3,Sem.run_bind,run_underlying hu,run_underlying hx,Result.andThen_ok,sizeOf,ep w hi,Sem.run_pure,hz',DB,DS,hm,EG,DV];split
 ·exact absurd hd (by simp [ph])
 ·simp only [DB,DS,Sem.run_bind,hm,Result.andThen_ok,EG,DV,false_or,Sem.run_pure,hc,ep w hi];rw [DL h1];simp only [Sem.run_bind,ep w hi,Result.andThen_ok];rw [DL h2];simp only [Sem.run_bind,Sem.run_pure,Result.andThen_ok,run_choose,Question.forced,DB,DS,run_askRoom];have hdr:({ w with drawn:=w.drawn+1 }:World)=w.drew:=rfl;rw [hdr];simp only [ep w.drew hi,Result.andThen_ok,run_askRoom];rw [hfo];simp only [Result.andThen_ok];rw [hfn];simp only [Result.andThen_ok,fP w.drew hz,Go.newRow,Sem.run_bind,run_newObj,Sem.run_pure,grownCap];have:olds.toArray++news.toArray++Builtin.zeroCells z.cells ((Question.appendCap (len+m) cap el).cut (w.tape w.drawn (Question.appendCap (len+m) cap el))-(len+m)) =
    (olds++news++(Builtin.zeroCells z.cells ((Question.appendCap (len+m) cap el).cut (w.tape w.drawn (Question.appendCap (len+m) cap el))-(len+m))).toList).toArray:=by
   apply IJ;simp
  rw [this];rfl
def grow_sound {z:Vl} {size c:Nat} {el:TypeId} {olds news olds' news':List Vl} {n:Nat} (s:cD μ h w) (hf:fi μ h (h.alloc (olds++news))) (ho:aT μ olds olds') (hn:aT μ news news')
  (hzs:z.cells.size=size) (hpos:0<size) (hlen:olds.length+news.length=n*size) (hc:n<=c) (hcm:c<=maxLen) :
  ∃ μ' w',w'={ w.drew with heap:=w.heap.push (.cells ((olds'++news'++(Builtin.zeroCells z.cells (c-n)).toList).toArray) el (0,0)) } /\
    cD μ' (h.alloc (olds++news)) w'/\ct μ h w μ' (h.alloc (olds++news)) w'/\aF μ' (.slice (some ⟨h.next,0,some size⟩) n n) (.slice (some ⟨w.heap.size,0,none⟩) n c):=by
 have hl:=ho.1;have hl':=hn.1;have hzc:(Builtin.zeroCells z.cells (c-n)).size=(c-n)*size:=by rw [size_zeroCells,hzs]
 have hsz:((olds'++news'++(Builtin.zeroCells z.cells (c-n)).toList).toArray).size=c*size:=by
  simp only [FR,DO,Array.length_toList,hzc,<-hl,<-hl',hlen,<-Nat.add_mul]
  congr 1;omega
 have hnc:n*size<=c*size:=GJ _ hc;obtain ⟨hS,hSt⟩:=s.alloc (k:=olds++news) hf (arr:=(olds'++news'++(Builtin.zeroCells z.cells (c-n)).toList).toArray) (T:=el) (fr:=(0,0)) (.inl rfl)
  (by rw [hsz,DO,hlen];exact hnc)
  (by
   have:(olds++news).length=(olds'++news').length:=by simp [hl,hl']
   rw [this,IC];exact ho.append hn)
  (w1:={ w.drew with heap:=w.heap.push (.cells ((olds'++news'++(Builtin.zeroCells z.cells (c-n)).toList).toArray) el (0,0)) }) rfl rfl rfl rfl
 refine ⟨_,_,rfl,hS,hSt,?_⟩;have:=aF.pU (b:=h.next) (off:=0) (len:=n) (cap:=n) (cap':=c) (s:=size) (Mu.cI μ h.next ⟨w.heap.size,0,((olds'++news'++(Builtin.zeroCells z.cells (c-n)).toList).toArray).size,(olds++news).length⟩) (DG _) hc hcm
  (by simp only [DO,hlen,DC]) (by simp only [hsz];omega)
 simpa using this
def cD.regrow {b off n1:Nat} {k:eh} {L:Loc} {news news':List Vl} (s:cD μ h w) (hb:h.n0<=b) (hg:h.get b=some k) (hL:μ b=some L) (h1:off+n1<=k.length)
  (hx:aT μ news news') (hone:aM news=true) (hext:L.off+off+n1+news.length<=L.ext) (hf:fi μ h ((h.kill b).alloc ((k.drop off).take n1++news))) :
  ∃ μ' w',(Go.storeCells ⟨L.blk,L.off+off+n1,none⟩ news').run P w = .ok () w'/\cD μ' ((h.kill b).alloc ((k.drop off).take n1++news)) w'/\ct μ h w μ' ((h.kill b).alloc ((k.drop off).take n1++news)) w' /\
    μ' h.next=some ⟨L.blk,L.off+off,L.ext,n1+news.length⟩:=by
 obtain ⟨L',arr,T,fr,e1,e2,e4,e5,e6,e7,e8,e9⟩:=s.new b k hb hg;rw [hL] at e1;cases e1;have hal:arr.toList.length=arr.size:=Array.length_toList;have hlt:=h.aL hg;have hnl:news'.length=news.length:=hx.1.symm;have hnone:μ h.next=none:=hf _ (DG _) (by simp);have hm:=Mu.np (L:=⟨L.blk,L.off+off,L.ext,n1+news.length⟩) hnone;have hget : ∀ c kc,((h.kill b).alloc ((k.drop off).take n1++news)).get c=some kc->(c=h.next/\kc=(k.drop off).take n1++news)\/(c≠h.next/\c≠b/\h.get c=some kc):=by
  intro c kc hc;rw [ae.aZ,ae.ri] at hc;by_cases ec:c=h.next
  ·rw [DH ec] at hc;cases hc;exact .inl ⟨ec,rfl⟩
  ·rw [DL ec] at hc;unfold ae.kill at hc;rw [h.CI hb hlt] at hc;by_cases eb:c=b
   ·rw [DH eb] at hc;cases hc
   ·rw [DL eb] at hc;exact .inr ⟨ec,eb,hc⟩
 have hgetB : ∀ c kc,((h.kill b).alloc ((k.drop off).take n1++news)).getB c=some kc->(c=h.next/\kc = .cells ((k.drop off).take n1++news))\/(c≠h.next/\c≠b/\h.getB c=some kc):=by
  intro c kc hc;rw [ae.dg,ae.ri] at hc;by_cases ec:c=h.next
  ·rw [DH ec] at hc;cases hc;exact .inl ⟨ec,rfl⟩
  ·rw [DL ec] at hc;unfold ae.kill at hc;rw [h.fc hb hlt] at hc;by_cases eb:c=b
   ·rw [DH eb] at hc;cases hc
   ·rw [DL eb] at hc;exact .inr ⟨ec,eb,hc⟩
 have hB:(w.setRow L.blk (splice arr.toList (L.off+off+n1) news').toArray).heap[L.blk]? = some (.cells (splice arr.toList (L.off+off+n1) news').toArray T fr):=setRow_heap w L.blk arr _ T fr e4;have hsz:((splice arr.toList (L.off+off+n1) news').toArray).size=arr.size:=by rw [FR,mF (by omega),hal]
 refine ⟨μ.put h.next ⟨L.blk,L.off+off,L.ext,n1+news.length⟩,w.setRow L.blk (splice arr.toList (L.off+off+n1) news').toArray,?_,⟨?_,?_,?_,?_,?_,fun b hb=>by obtain ⟨L,h1,h2⟩:=s.low b hb;exact ⟨L,hm _ _ h1,h2⟩⟩,⟨?_,rfl,rfl,by simp,rfl,rfl,rfl,by simp [World.setRow],?_,?_,fun B r hB=>⟨r,by rw [setRow_other _ _ _ _ (by rintro rfl;rw [e4] at hB;cases hB)];exact hB⟩,DG _⟩,Mu.cI _ _ _⟩
 ·have:=iI P L.blk (L.off+off+n1) T fr news' 0 arr w e4 e7 (by omega) (hx.aM hone);simpa using this
 ·intro c cs hc hcs;obtain ⟨L2,a2,T2,f2,g1,g2,g3,g4,g5⟩:=s.old c cs (by simpa using hc) hcs;refine ⟨L2,a2,T2,f2,hm _ _ g1,g2,g3,?_,g5.mono hm⟩;rw [setRow_other _ _ _ _ (by simp at hc;omega)];exact g4
 ·intro c kc hc hgc;rcases hget c kc hgc with ⟨rfl,rfl⟩|⟨n1',n2',hgc'⟩
  ·refine ⟨_,_,T,fr,Mu.cI _ _ _,?_,hB,hsz.trans e5,?_,by rw [hsz];exact e7,by simpa using e8,?_⟩
   ·simp only [DO,E8,F9];omega
   ·simp only;omega
   ·simp only;have hr:=(e9.drop off).take n1;rw [IA,GG,IB,show min n1 (L.len-off)=n1 from by omega] at hr;have:((splice arr.toList (L.off+off+n1) news').drop (L.off+off)).take (n1+news.length)=(arr.toList.drop (L.off+off)).take n1++news':=by
     unfold splice;have e1:(arr.toList.take (L.off+off+n1)).drop (L.off+off)=(arr.toList.drop (L.off+off)).take n1:=by rw [IA];congr 1;omega
     rw [DY,HA (by simp;omega),e1,<-List.append_assoc];exact List.take_left' (by simp;omega)
    rw [this];exact (hr.append hx).mono hm
  ·obtain ⟨L2,a2,T2,f2,g1,g2,g4,g5,g6,g7,g8,g9⟩:=s.new c kc hc hgc';refine ⟨L2,a2,T2,f2,hm _ _ g1,g2,?_,g5,g6,g7,g8,g9.mono hm⟩;rw [setRow_other _ _ _ _ (s.inj c b _ _ L2 L hc hb n2' (h.aJ hgc') (h.aJ hg) g1 hL)];exact g4
 ·intro c o hc hgc;rcases hgetB c _ hgc with ⟨rfl,e⟩|⟨n1',n2',hgc'⟩
  ·cases e
  ·obtain ⟨L2,ob,g1,g2,g3,g4⟩:=s.obj c o hc hgc';exact ⟨L2,ob,hm _ _ g1,by rw [setRow_other _ _ _ _ (s.inj c b _ _ L2 L hc hb n2' hgc' (h.aJ hg) g1 hL)];exact g2,g3.mono hm,g4⟩
 ·intro c c' kc kc' Lc Lc' hc hc' hne hgc hgc' h2 h3;have hg:=h.aJ hg;rcases hgetB c kc hgc with ⟨rfl,rfl⟩|⟨n1',n2',g1⟩
  ·rw [Mu.cI] at h2;cases h2;rcases hgetB c' kc' hgc' with ⟨rfl,rfl⟩|⟨m1,m2,g2⟩
   ·exact absurd rfl hne
   ·rw [Mu.cW _ _ m1] at h3;exact s.inj b c' _ kc' L Lc' hb hc' (Ne.symm m2) hg g2 hL h3
  ·rw [Mu.cW _ _ n1'] at h2;rcases hgetB c' kc' hgc' with ⟨rfl,rfl⟩|⟨m1,m2,g2⟩
   ·rw [Mu.cI] at h3;cases h3;exact s.inj c b kc _ Lc L hc hb n2' g1 hg h2 hL
   ·rw [Mu.cW _ _ m1] at h3;exact s.inj c c' kc kc' Lc Lc' hc hc' hne g1 g2 h2 h3
 ·simpa [World.setRow] using s.size
 ·intro c hc;rw [Mu.cW _ _ (by simp at hc;omega)]
 ·intro B hB' hO;exact setRow_other _ _ _ _ (fun e=>hO ⟨b,_,L,hb,h.aJ hg,hL,e.symm⟩)
 ·rintro B ⟨c,kc,Lc,hc,hgc,h2,rfl⟩;rcases hgetB c kc hgc with ⟨rfl,rfl⟩|⟨n1',n2',g1⟩
  ·rw [Mu.cI] at h2;cases h2;exact .inl ⟨b,_,L,hb,h.aJ hg,hL,rfl⟩
  ·rw [Mu.cW _ _ n1'] at h2;exact .inl ⟨c,kc,Lc,hc,g1,h2,rfl⟩
def CJ {t tx ty el:TypeId} {d:TypeDesc} {size by_:Nat} {z s s' x x' r:Vl} {h':ae} (hu:P.underlying t=some (.slice el)) (htx:P.underlying tx=some d) (hd:ph d=false)
  (hsz:cQ P el=some size) (hby:yJ P el=some by_) (hz:jr P el=some z) (hzs:z.cells.size=size) (hpos:0<size)
  (S:cD μ h w) (hf:fi μ h h') (hs:aF μ s s') (hx:aF μ x x') (e:appendA size by_ s x h=some (r,h')) :
  ∃ μ' r' w',(Builtin.append_ #[t,tx] ty #[s',x']).run P w = .ok r' w'/\cD μ' h' w'/\ct μ h w μ' h' w'/\aF μ' r r':=by
 obtain ⟨i,hi,hin⟩:=mG hsz;have hib:i.bytes=by_:=by simp only [yJ,hi,Option.map_some,DA] at hby;exact hby
 subst hin hib;unfold appendA at e;split at e
 ·rename_i cK len cap m hm;have hlen:=AH (P:=P) (w:=w) hx hm;split at e
  ·cases e
  ·rename_i news hnews;split at e
   ·cases e
   ·rename_i hcond;simp only [FI,GI,DR,not_or,Bool.not_eq_false,HC,IL,ne_eq] at hcond;obtain ⟨⟨⟨hone,hbytes⟩,h62⟩,hnl⟩:=hcond;have hle : ∀ m',uq x=some m'->m<=m':=by intro m' h;rw [hm] at h;cases h;exact DG _
    obtain ⟨news',hrn,hrel⟩:=sC S hx hnews hle P;have place : ∀ {b off:Nat} {h1:ae} {L:Loc} {c':Nat},μ b=some L->stL b (off+len*i.size) news h=some h1->s' = .slice (some ⟨L.blk,L.off+off,none⟩) len c'->len+m<=c' ->
      ∃ w',(Builtin.append_ #[t,tx] ty #[s',x']).run P w = .ok (.slice (some ⟨L.blk,L.off+off,none⟩) (len+m) c') w'/\cD μ h1 w'/\ct μ h w μ h1 w':=by
     intro b off h1 L c' hL hst hs' hc;subst hs';obtain ⟨L',w',hL',hrun,hS,hSt⟩:=hU (P:=P) S hrel hst;rw [hL] at hL';cases hL';refine ⟨w',mP hu htx hd hi hlen hc (hrn w rfl) ?_ (by intro h;cases h),hS,hSt⟩;intro a ha;cases ha;rw [Addr.add_lit,F0];exact hrun
    have grow : ∀ {olds olds':List Vl} {h1:ae} {base':Option Addr} {c':Nat},cD μ h1 w->fi μ h1 (h1.alloc (olds++news))->olds.length=len*i.size->aT μ olds olds' ->
      (∀ w',w'.heap=w.heap->(Builtin.firstCells i.size len (.slice base' len c')).run P w' = .ok olds'.toArray w')->s' = .slice base' len c' -> ¬len+m<=c' ->
      ∃ μ' r' w',(Builtin.append_ #[t,tx] ty #[s',x']).run P w = .ok r' w'/\cD μ' (h1.alloc (olds++news)) w'/\ct μ h1 w μ' (h1.alloc (olds++news)) w' /\
        aF μ' (.slice (some ⟨h1.next,0,some i.size⟩) (len+m) (len+m)) r':=by
     intro olds olds' h1 base' c' S1 hf1 hol horel hro hs' hc;subst hs';have hfit:Builtin.nextslicecap (len+m) c'*i.bytes<=281474976710656:=growslice_fits (by omega) hbytes;have hrun:=yF (ty:=ty) hu htx hd hi hlen hc hz (hro w.drew rfl) (hrn w.drew rfl) h62 hfit;obtain ⟨μ',w',hw',hS,hSt,hv⟩:=grow_sound (z:=z) (size:=i.size) (c:=grownCap w (len+m) c' el) (el:=el) (n:=len+m) S1 hf1 horel hrel hzs hpos
      (by rw [hol,hnl,HG]) (grownCap_ge w (len+m) c' el) (grownCap_le_maxLen w (len+m) c' el (by unfold maxLen;omega))
     exact ⟨μ',_,w',by rw [hrun,hw'],hS,hSt,hv⟩
    split at e
    ·rename_i hroom;split at e
     ·rename_i hm0;subst hm0;cases e;have hn0:news' = []:=by have:=hrel.1;simp only [hnl,HM] at this;exact HB this.symm
      subst hn0;have fin : ∀ (b':Option Addr) (c':Nat),s' = .slice b' len c'->cap<=c' -> ∃ μ' r' w',(Builtin.append_ #[t,tx] ty #[s',x']).run P w = .ok r' w'/\cD μ' h w'/\ct μ h w μ' h w'/\aF μ' (.slice cK len cap) r':=by rintro b' c' rfl hc;refine ⟨μ,.slice b' (len+0) c',w,mP hu htx hd hi hlen (by omega) (hrn w rfl) (fun a _=>rfl) (fun _=>rfl),S,.cq,hs⟩
      cases hs with
      |flat h=>exact fin _ _ rfl (DG _)
      |slice h=>exact fin _ _ rfl (DG _)
      |pU h _ hc=>exact fin _ _ rfl hc
      |jQ h=>exact fin _ _ rfl (DG _)
      |zA=>exact fin _ _ rfl (DG _)
     ·rename_i hm0;split at e
      ·rename_i b off sp;simp only [DJ,DF] at e;obtain ⟨h1,hst,rfl,rfl⟩:=e;cases hs with
       |flat h=>simp [flat] at h
       |slice hL=>
        obtain ⟨w',hrun,hS,hSt⟩:=place hL hst rfl hroom;exact ⟨μ,_,w',hrun,hS,hSt,.slice hL⟩
       |pU hL hl hc hmx g1 g2=>
        obtain ⟨w',hrun,hS,hSt⟩:=place hL hst rfl (by omega);exact ⟨μ,_,w',hrun,hS,hSt,.pU hL hroom hc hmx g1 g2⟩
       |jQ hL=>omega
       |zA=>omega
      ·cases e
    ·rename_i hroom;split at e
     ·split at e
      ·rename_i h0;subst h0;simp only [DA,DF] at e;obtain ⟨rfl,rfl⟩:=e;have hs':=hs.bG rfl;have:=grow (olds := []) (olds' := []) (h1:=h) S (by simpa using hf) (by simp) (aT.nil μ) (by intro w' _;simp [Builtin.firstCells]) hs' hroom;simpa using this
      ·cases e
     ·rename_i b off sp;split at e
      ·cases e
      ·rename_i olds holds;split at e
       ·cases e
       ·rename_i hol;have hol':olds.length=len*i.size:=IL.1 hol;obtain ⟨olds',hro,horel⟩:=sC S hs holds (by intro m' h;cases h;exact DG _) P;split at e
        ·simp only [DA,DF] at e;obtain ⟨rfl,rfl⟩:=e;cases hs with
         |flat h=>simp [flat] at h
         |slice hL=>exact grow S hf hol' horel hro rfl hroom
        ·rename_i zz;split at e
         ·rename_i hc;simp only [DD,DR] at hc;obtain ⟨⟨rfl,hb⟩,hlive⟩:=hc;obtain ⟨k,hk⟩:=E9.1 hlive;simp only [DA,DF] at e;obtain ⟨rfl,rfl⟩:=e;obtain ⟨S1,St1⟩:=S.kill hb (h.aL hk);have hf1:fi μ (h.kill b) ((h.kill b).alloc (olds++news)):=hf;generalize hq:i.size=q at hs;cases hs with
          |flat h=>simp [flat] at h
          |zA=>omega
          |pU hL hl hc hmx g1 g2=>
           rename_i cap' L;subst hq;by_cases hin:len+m<=cap'
           ·have hkl:L.len=k.length:=by obtain ⟨L',arr,T,fr,e1,e2,_⟩:=S.new b k hb hk;rw [hL] at e1;cases e1;exact e2
            have hls:len*i.size<=cap*i.size:=GJ _ hl;have hms:(len+m)*i.size<=cap'*i.size:=GJ _ hin;have hadd:(len+m)*i.size=len*i.size+m*i.size:=HG _ _ _;have holds':olds=(k.drop off).take (len*i.size):=by
             unfold firstA at holds;simp only [hk] at holds;split at holds
             ·rename_i h0;cases holds;rw [h0];rfl
             ·split at holds
              ·cases holds;rfl
              ·cases holds
            subst holds';obtain ⟨μ',w',hrun,hS,hSt,hμ⟩:=S.regrow (P:=P) (off:=off) (n1:=len*i.size) hb hk hL (by omega) hrel hone (by omega) hf;refine ⟨μ',.slice (some ⟨L.blk,L.off+off,none⟩) (len+m) cap',w',mP hu htx hd hi hlen hin (hrn w rfl) ?_ (by intro h;cases h),hS,hSt,?_⟩
            ·intro a ha;cases ha;rw [Addr.add_lit];exact hrun
            ·have:=aF.pU (μ:=μ') (b:=h.next) (off:=0) (len:=len+m) (cap:=len+m) (cap':=cap') (s:=i.size) hμ (DG _) hin hmx (by simp only;omega) (by simp only;omega);simpa using this
           ·obtain ⟨μ',r',w',hrun,hS,hSt,hv⟩:=grow S1 hf1 hol' horel hro rfl hin;exact ⟨μ',r',w',hrun,hS,St1.trans hSt,hv⟩
          |jQ hL=>
           subst hq;obtain ⟨μ',r',w',hrun,hS,hSt,hv⟩:=grow S1 hf1 hol' horel hro rfl (by omega);exact ⟨μ',r',w',hrun,hS,St1.trans hSt,hv⟩
         ·cases e
 ·cases e
def copy_sound {dT sT ty el:TypeId} {size:Nat} {d d' s s' r:Vl} {h':ae} (hu:P.underlying dT=some (.slice el)) (hsz:cQ P el=some size)
  (S:cD μ h w) (hd:aF μ d d') (hs:aF μ s s') (e:js size d s h=some (r,h')) :
  ∃ w',(Builtin.copy_ #[dT,sT] ty #[d',s']).run P w = .ok r w'/\cD μ h' w'/\ct μ h w μ h' w' /\ ∃ n:Nat,r = .int .i64 n:=by
 unfold js at e;split at e
 ·rename_i cK dLen dCap m hm;have hlen:=AH (P:=P) (w:=w) hs hm;simp only at e;split at e
  ·cases e
  ·rename_i news hnews;obtain ⟨news',hrn,hrel⟩:=sC S hs hnews (by intro m' h;rw [hm] at h;cases h;exact Nat.min_le_left _ _) P;obtain ⟨b',c',rfl,hb'⟩:=hd.jZ;have head : ∀ w',(∀ a,b'=some a->(storeCells a news').run P w = .ok () w')->(b'=none->w'=w) ->
     (Builtin.copy_ #[dT,sT] ty #[.slice b' dLen c',s']).run P w = .ok (.int .i64 (min m dLen:Nat)) w':=by
    intro w' hs hn;have e0:(#[dT,sT]:Array TypeId)[0]? = some dT:=rfl;have e2:(#[.slice b' dLen c',s']:Array Vl)[0]? = some (.slice b' dLen c'):=rfl;have e3:(#[.slice b' dLen c',s']:Array Vl)[1]? = some s':=rfl;unfold Builtin.copy_;simp only [e0,e2,e3,Sem.run_bind,run_underlying hu,Result.andThen_ok,hlen,cS w hsz,Nat.min_def];have hrn0:=hrn w rfl;rw [Nat.min_def] at hrn0;rw [hrn0];cases b' with
    |none=>simp [hn rfl,goInt]
    |some a=>simp [hs a rfl,goInt]
   split at e
   ·rename_i h0;cases e;have hn0:news' = []:=by
     have h1:=hrel.1;have:news = []:=by
      unfold firstA at hnews;rw [h0] at hnews;split at hnews
      ·simpa using hnews.symm
      ·simpa using hnews.symm
      ·simp only [DA] at hnews;rw [<-hnews];simp
      ·cases hnews
     subst this;exact HB h1.symm
    subst hn0;exact ⟨w,head w (fun _ _=>rfl) (fun _=>rfl),S,.cq,_,rfl⟩
   ·rename_i h0;split at e
    ·cases e
    ·rename_i b off sp;simp only [DJ,DF] at e;obtain ⟨h1,hst,rfl,rfl⟩:=e;obtain ⟨L,w',hL,hrun,hS,hSt⟩:=hU (P:=P) S hrel hst;have hb2:b'=some ⟨L.blk,L.off+off,none⟩:=by
      cases hd with
      |flat h=>simp [flat] at h
      |slice h=>rw [h] at hL;cases hL;rfl
      |pU h=>rw [h] at hL;cases hL;rfl
      |jQ h=>simp at h0
      |zA=>simp at h0
     refine ⟨w',head w' ?_ (by intro h;rw [hb2] at h;cases h),hS,hSt,_,rfl⟩;intro a ha;rw [hb2] at ha;cases ha;exact hrun
 ·cases e
def clear_sound {t ty el:TypeId} {size:Nat} {d d' r:Vl} {h':ae} (hu:P.underlying t=some (.slice el))
  (S:cD μ h w) (hd:aF μ d d') (e:clearA P el size d h=some (r,h')) :
  ∃ w',(Builtin.clear_ #[t] ty #[d']).run P w = .ok r w'/\cD μ h' w'/\ct μ h w μ h' w'/\r=undef:=by
 have e0:(#[t]:Array TypeId)[0]? = some t:=rfl;have e2 : ∀ v:Vl,(#[v]:Array Vl)[0]? = some v:=fun _=>rfl;unfold clearA at e;split at e
 ·cases e;rw [hd.bG rfl];refine ⟨w,?_,S,.cq,rfl⟩;simp [Builtin.clear_,run_underlying hu,undef]
 ·rename_i b off sp n c;split at e
  ·rename_i h0;subst h0;cases e;obtain ⟨b',c',rfl,hb'⟩:=hd.jZ;refine ⟨w,?_,S,.cq,rfl⟩;cases b'<;>simp [Builtin.clear_,run_underlying hu,undef]
  ·rename_i h0;split at e
   ·rename_i z hz;split at e
    ·rename_i hc;simp only [DD,DR] at hc;obtain ⟨⟨hfl,hzn⟩,hpos⟩:=hc;simp only [DJ,DF] at e;obtain ⟨h1,hst,rfl,rfl⟩:=e;have hzz:(Builtin.zeroCells z.cells n).toList=dJ z.cells.toList n:=by rw [<-mA z.cells (by omega)];simp [Builtin.zeroCells]
     obtain ⟨L,w',hL,hrun,hS,hSt⟩:=hU (P:=P) S (aT.gQ (μ:=μ) (l:=dJ z.cells.toList n) (by simp only [bD,DQ,dJ,HV] at hfl |-;rintro x ⟨_,_,hx⟩;exact hfl x hx)) hst
     have hb2 : ∃ c',d' = .slice (some ⟨L.blk,L.off+off,none⟩) n c':=by
      cases hd with
      |flat h=>simp [flat] at h
      |slice h=>rw [h] at hL;cases hL;exact ⟨_,rfl⟩
      |pU h=>rw [h] at hL;cases hL;exact ⟨_,rfl⟩
      |jQ h=>exact absurd rfl h0
      |zA=>exact absurd rfl h0
     obtain ⟨c',rfl⟩:=hb2;refine ⟨w',?_,hS,hSt,rfl⟩;obtain ⟨n,rfl⟩ : ∃ n',n=n'+1:=⟨n-1,by omega⟩
     unfold Builtin.clear_;simp only [e0,e2,Sem.run_bind,run_underlying hu,Result.andThen_ok,fP w hz,hzz,hrun,Sem.run_pure];rfl
    ·cases e
   ·cases e
 ·cases e
def len_sound {t ty:TypeId} {x x' r:Vl} (hx:aF μ x x') (e:lenOfT P t x=some r):(Builtin.len_ #[t] ty #[x']).run P w = .ok r w/\flat r=true:=by
 unfold lenOfT at e;split at e
 ·rename_i hu;cases e;rw [hx.bG rfl];exact ⟨by simp [Builtin.len_,run_underlying hu,goInt],rfl⟩
 ·rename_i n el _ _ hu;cases e;exact ⟨by simp [Builtin.len_,run_underlying hu,goInt],rfl⟩
 ·rename_i arr hu;split at e
  ·rename_i ha;cases e;exact ⟨by simp [Builtin.len_,run_underlying hu,run_underlying ha,goInt],rfl⟩
  ·cases e
 ·rename_i hu;cases e;obtain ⟨b',c',rfl,_⟩:=hx.jZ;exact ⟨by simp [Builtin.len_,run_underlying hu,goInt],rfl⟩
 ·cases e
def max_fold : ∀ (l:List Vl) (v r:Vl),minmax true v l=some r->(l.foldlM Builtin.max2 v).run P w = .ok r w/\(bD l=true->flat v=true->flat r=true)
 | [],v,r,e=>by cases e;exact ⟨rfl,fun _ h=>h⟩
 |x::l,v,r,e=>by
  unfold minmax at e;split at e
  ·rename_i h;cases h
  ·rename_i k a k' b rest heq;cases heq;split at e
   ·rename_i hk;subst hk;obtain ⟨h1,h2⟩:=max_fold l _ r e;refine ⟨?_,fun hl _=>h2 ?_ rfl⟩
    ·simp only [List.foldlM_cons,Sem.run_bind,Builtin.max2,Sem.run_pure,Result.andThen_ok];simpa using h1
    ·simp only [bD,List.all_cons,DD] at hl |-;exact hl.2
   ·cases e
  ·cases e
def min_fold : ∀ (l:List Vl) (v r:Vl),minmax false v l=some r->(l.foldlM Builtin.min2 v).run P w = .ok r w/\(bD l=true->flat v=true->flat r=true)
 | [],v,r,e=>by cases e;exact ⟨rfl,fun _ h=>h⟩
 |x::l,v,r,e=>by
  unfold minmax at e;split at e
  ·rename_i h;cases h
  ·rename_i k a k' b rest heq;cases heq;split at e
   ·rename_i hk;subst hk;obtain ⟨h1,h2⟩:=min_fold l _ r e;refine ⟨?_,fun hl _=>h2 ?_ rfl⟩
    ·simp only [List.foldlM_cons,Sem.run_bind,Builtin.min2,Sem.run_pure,Result.andThen_ok];simpa using h1
    ·simp only [bD,List.all_cons,DD] at hl |-;exact hl.2
   ·cases e
  ·cases e
def oX : ∀ {mx:Bool} {l:List Vl} {v r:Vl},minmax mx v l=some r->l ≠ []->bD (v::l)=true/\flat r=true
 |mx,[],v,r,e,h=>absurd rfl h
 |mx,x::l,v,r,e,_=>by
  unfold minmax at e;split at e
  ·rename_i h;cases h
  ·rename_i k a k' b rest heq;cases heq;split at e
   ·cases l with
    |nil=>cases e;exact ⟨rfl,rfl⟩
    |cons y l=>
     obtain ⟨h1,h2⟩:=oX e (by simp);simp only [bD,List.all_cons,DD] at h1 |-;exact ⟨⟨rfl,rfl,h1.2⟩,h2⟩
   ·cases e
  ·cases e
end ops
def bdF (n:Nat):Fn->Bool
 | .yield l=>decide (l<n)
 |_=>true
def bdF_mono {n m:Nat} (h:n<=m) {f:Fn} (e:bdF n f=true):bdF m f=true:=by
 cases f with
 |yield l=>simp only [bdF,DR] at e |-;omega
 |_=>rfl
mutual
def b9 (n:Nat):Vl->Bool
 | .pointer (some a)=>a.block<n
 | .slice (some a) _ _=>a.block<n
 | .map (some b)=>b<n
 | .agg ⟨l⟩=>cT n l
 | .tuple ⟨l⟩=>cT n l
 | .func f ⟨l⟩ ⟨r⟩=>bdF n f&&(cT n l&&cT n r)
 | .iface _ v=>b9 n v
 |_=>true
def cT (n:Nat):List Vl->Bool
 | []=>true
 |v::l=>b9 n v&&cT n l
end
def eX {n:Nat} : ∀ {l:List Vl},cT n l=true ↔ ∀ x∈l,b9 n x=true
 | []=>by simp [cT]
 |v::l=>by simp [cT,eX (l:=l)]
mutual
def tb {n m:Nat} (h:n<=m) : ∀ {v:Vl},b9 n v=true->b9 m v=true
 | .pointer none,_=>rfl
 | .pointer (some a),e=>by simp only [b9,DR] at e |-;omega
 | .slice none _ _,_=>rfl
 | .slice (some a) _ _,e=>by simp only [b9,DR] at e |-;omega
 | .map none,_=>rfl
 | .map (some _),e=>by simp only [b9,DR] at e |-;omega
 | .chan none,_=>rfl
 | .chan (some _),e=>rfl
 | .agg ⟨l⟩,e=>by simp only [b9] at e |-;exact cy h e
 | .tuple ⟨l⟩,e=>by simp only [b9] at e |-;exact cy h e
 | .func _ ⟨l⟩ ⟨r⟩,e=>by simp only [b9,DD] at e |-;exact ⟨bdF_mono h e.1,cy h e.2.1,cy h e.2.2⟩
 | .iface _ v,e=>by simp only [b9] at e |-;exact tb h e
 | .bool _,_=>rfl
 | .int _ _,_=>rfl
 | .float _ _,_=>rfl
 | .complex _ _ _,_=>rfl
 | .string _,_=>rfl
 | .nilFunc,_=>rfl
 | .nilIface,_=>rfl
def cy {n m:Nat} (h:n<=m) : ∀ {l:List Vl},cT n l=true->cT m l=true
 | [],_=>rfl
 |v::l,e=>by simp only [cT,DD] at e |-;exact ⟨tb h e.1,cy h e.2⟩
end
def je {n:Nat} {v:Vl} (h:flat v=true):b9 n v=true:=by
 cases v with
 |pointer a=>cases a<;>first|rfl|(simp [flat] at h)
 |slice a=>cases a<;>first|rfl|(simp [flat] at h)
 |map a=>cases a<;>first|rfl|(simp [flat] at h)
 |chan a=>cases a<;>first|rfl|(simp [flat] at h)
 |func f a b=>
  cases f<;>simp [flat] at h;obtain ⟨rfl,rfl⟩:=h;rfl
 |agg a=>simp [flat] at h
 |tuple a=>simp [flat] at h
 |iface t v=>simp [flat] at h
 |_=>rfl
def dh {n:Nat} {l:List Vl} (h:bD l=true):cT n l=true:=eX.2 fun x hx=>je (DQ.1 h x hx)
def cL {n:Nat} {a b:List Vl} (ha:cT n a=true) (hb:cT n b=true):cT n (a++b)=true:=by
 rw [eX] at *;intro x hx;rcases D8.1 hx with h|h
 ·exact ha x h
 ·exact hb x h
def sZ {n k:Nat} {a:List Vl} (ha:cT n a=true):cT n (a.take k)=true:=by rw [eX] at *;exact fun x hx=>ha x (D6 hx)
def tk {n k:Nat} {a:List Vl} (ha:cT n a=true):cT n (a.drop k)=true:=by rw [eX] at *;exact fun x hx=>ha x (EO hx)
def yu {n off:Nat} {a b:List Vl} (ha:cT n a=true) (hb:cT n b=true):cT n (splice a off b)=true:=
 cL (cL (sZ ha) hb) (tk ha)
def kv {n i:Nat} {a:List Vl} {x:Vl} (ha:cT n a=true) (hx:a[i]? = some x):b9 n x=true:=eX.1 ha x (D7 hx)
def bdL_set {n i:Nat} {a:List Vl} {x:Vl} (ha:cT n a=true) (hx:b9 n x=true):cT n (a.set i x)=true:=by
 rw [eX] at *;intro y hy;rcases GO hy with h|h
 ·exact ha y h
 ·subst h;exact hx
def bdL_getD {n i:Nat} {a:List Vl} (ha:cT n a=true):b9 n (a.getD i undef)=true:=by
 rw [DK];cases h:a[i]? with
 |none=>rfl
 |some x=>exact kv ha h
def jL {n:Nat} {a:Array Vl}:b9 n (.agg a)=cT n a.toList:=by obtain ⟨l⟩:=a;rfl
def AU {n:Nat} {a:Array Vl}:b9 n (.tuple a)=cT n a.toList:=by obtain ⟨l⟩:=a;rfl
def vm {n:Nat} {v:Vl} (h:b9 n v=true):cT n v.cells.toList=true:=by
 cases v with
 |agg a=>rw [jL] at h;exact h
 |_=>simpa [Value.cells,cT] using h
def Mu.cut (μ:Mu) (n:Nat):Mu:=fun b=>if b<n then μ b else none
def Mu.eP {μ:Mu} {n b:Nat} {L:Loc} (h:μ b=some L) (hb:b<n):μ.cut n b=some L:=by simp [Mu.cut,hb,h]
def Mu.yU {μ:Mu} {n b:Nat} {L:Loc} (h:μ.cut n b=some L):μ b=some L/\b<n:=by
 unfold Mu.cut at h;split at h
 ·exact ⟨h,by assumption⟩
 ·cases h
def aF.cut {μ:Mu} {n:Nat} {v v':Vl} (h:aF μ v v') (hb:b9 n v=true):aF (μ.cut n) v v':=by
 have arr : ∀ {xs ys:Array Vl},cT n xs.toList=true->(∀ (i:Nat) (x y:Vl),xs[i]? = some x->ys[i]? = some y->b9 n x=true->aF (μ.cut n) x y) -> ∀ (i:Nat) (x y:Vl),xs[i]? = some x->ys[i]? = some y->aF (μ.cut n) x y:=by intro xs ys hl ih i x y hx hy;exact ih i x y hx hy (kv (i:=i) hl (by simpa using hx))
 induction h with
 |flat h=>exact .flat h
 |ptr h=>simp only [b9,DR] at hb;exact .ptr (Mu.eP h hb)
 |slice h=>simp only [b9,DR] at hb;exact .slice (Mu.eP h hb)
 |pU h a b c d e=>simp only [b9,DR] at hb;exact .pU (Mu.eP h hb) a b c d e
 |jQ h=>simp only [b9,DR] at hb;exact .jQ (Mu.eP h hb)
 |map h=>simp only [b9,DR] at hb;exact .map (Mu.eP h hb)
 |zA=>exact .zA
 |agg hs _ ih=>rw [jL] at hb;exact .agg hs (arr hb ih)
 |tuple hs _ ih=>rw [AU] at hb;exact .tuple hs (arr hb ih)
 | @func f g a b c d hf h1 _ h3 _ i1 i2=>
   obtain ⟨la⟩:=a;obtain ⟨lc⟩:=c;simp only [b9,DD] at hb;refine .func ?_ h1 (arr hb.2.1 i1) h3 (arr hb.2.2 i2);cases f with
   |yield l=>obtain ⟨L,h5,h6⟩:=hf;exact ⟨L,Mu.eP h5 (by simpa [bdF] using hb.1),h6⟩
   |_=>exact hf
 |iface _ ih=>simp only [b9] at hb;exact .iface (ih hb)
def aT.cut {μ:Mu} {n:Nat} {v v':List Vl} (h:aT μ v v') (hb:cT n v=true):aT (μ.cut n) v v':=
 ⟨h.1,fun i x y hx hy=>(h.2 i x y hx hy).cut (kv hb hx)⟩
def oD.cut {μ:Mu} {n:Nat} {v v':List Vl} (h:oD μ v v') (hb:cT n v=true):oD (μ.cut n) v v':=
 ⟨h.1,fun i x y hx hy hh=>(h.2 i x y hx hy hh).cut (kv hb hx)⟩
def tQ (n:Nat):fF->Bool
 | .map es _=>es.all fun x=>b9 n x.1&&b9 n x.2.1
 | .iter m _ _ _=>match m with
   |some b=>decide (b<n)
   |none=>true
 | .loop _ _ tmps _ _ _=>cT n tmps
def bdO_mono {n m:Nat} (h:n<=m) {o:fF} (e:tQ n o=true):tQ m o=true:=by
 cases o with
 |map es c=>
  simp only [tQ,DQ,DD] at e |-;exact fun x hx=>⟨tb h (e x hx).1,tb h (e x hx).2⟩
 |iter m' a b c=>
  cases m' with
  |none=>rfl
  |some q=>simp only [tQ,DR] at e |-;omega
 |loop a b c d f g=>exact cy (l:=c) h e
def pC.cut {μ:Mu} {n:Nat} {o:fF} {ob:Obj} (h:pC μ o ob) (hb:tQ n o=true):pC (μ.cut n) o ob:=by
 cases o with
 |map es c=>
  cases ob with
  |map es' c'=>
   obtain ⟨h1,h2,h3⟩:=h;simp only [tQ,DQ,DD] at hb;refine ⟨h1,h2,fun i x e hx he => ?_⟩;have hm:=hb x (D7 hx);obtain ⟨k1,k2,k3⟩:=h3 i x e hx he;exact ⟨k1.cut hm.1,k2.cut hm.2,k3⟩
  |_=>exact h.elim
 |iter m since seen st=>
  cases ob with
  |mapIter m' since' seen' st'=>
   obtain ⟨h1,h2⟩:=h;refine ⟨?_,h2⟩;cases m with
   |none=>cases m' with
    |none=>trivial
    |some B=>exact h1
   |some a=>
    cases m' with
    |none=>exact h1
    |some B=>
     obtain ⟨L,h3,h4⟩:=h1;exact ⟨L,Mu.eP h3 (by simpa [tQ] using hb),h4⟩
  |_=>exact h.elim
 |loop st pend tmps params assign body=>
  cases ob with
  |loop r=>
   obtain ⟨h1,h2,h3,h4⟩:=h;exact ⟨h1,h2,h3.cut hb,h4⟩
  |_=>exact h.elim
structure aE (h:ae):Prop where
 cell : ∀ b k,h.get b=some k->cT h.next k=true
 obj : ∀ b o,h.getB b=some (.obj o)->tQ h.next o=true
instance {h:ae}:CoeFun (aE h) (fun _ => ∀ b k,h.get b=some k->cT h.next k=true):=⟨aE.cell⟩
def cD.cut {μ:Mu} {h:ae} {w:World} (s:cD μ h w) (hb:aE h):cD (μ.cut h.next) h w:=by
 have hle:=h.n0_le_next;refine ⟨?_,?_,?_,?_,s.size,?_⟩
 ·intro b cs hbn hc;obtain ⟨L,arr,T,fr,h1,h2,h3,h4,h5⟩:=s.old b cs hbn hc;refine ⟨L,arr,T,fr,Mu.eP h1 (by omega),h2,h3,h4,h5.cut (hb b cs ?_)⟩;unfold ae.get;simp only [ae.eZ];rw [DH hbn,hc];rfl
 ·intro b k hbn hg;obtain ⟨L,arr,T,fr,h1,h2,h3,h4,h5,h6,h7,h8⟩:=s.new b k hbn hg;exact ⟨L,arr,T,fr,Mu.eP h1 (h.aL hg),h2,h3,h4,h5,h6,h7,h8.cut (hb b k hg)⟩
 ·intro b o hbn hg;obtain ⟨L,ob,h1,h2,h3,h4⟩:=s.obj b o hbn hg;exact ⟨L,ob,Mu.eP h1 (h.lt_of_getB hg),h2,h3.cut (hb.obj b o hg),h4⟩
 ·intro b b' k k' L L' h1 h2 h3 h4 h5 h6 h7;exact s.inj b b' k k' L L' h1 h2 h3 h4 h5 (Mu.yU h6).1 (Mu.yU h7).1
 ·intro b hbn;obtain ⟨L,h1,h2⟩:=s.low b hbn;exact ⟨L,Mu.eP h1 (by omega),h2⟩
def aE.alloc {h:ae} {k:eh} (hb:aE h) (hk:cT (h.next+1) k=true):aE (h.alloc k):=by
 refine ⟨fun b k' hg => ?_,fun b o hg => ?_⟩
 ·rw [ae.aZ] at hg;rw [ae.jB];split at hg
  ·cases hg;exact hk
  ·exact cy (by omega) (hb b k' hg)
 ·rw [ae.dg] at hg;rw [ae.jB];split at hg
  ·cases hg
  ·exact bdO_mono (by omega) (hb.obj b o hg)
def aE.ru {h:ae} {b:Nat} {x:Option BB} (hb:aE h) (h0:h.n0<=b) (hn:b<h.next) (hk : ∀ k,x=some (.cells k)->cT h.next k=true) (ho : ∀ o,x=some (.obj o)->tQ h.next o=true):aE (h.put b x):=by
 refine ⟨fun c k' hg => ?_,fun c o hg => ?_⟩
 ·have hg:=(h.put b x).aJ hg;rw [h.fc h0 hn] at hg;rw [ae.next_put];split at hg
  ·exact hk _ hg
  ·exact hb c k' (h.get_of_getB hg)
 ·rw [h.fc h0 hn] at hg;rw [ae.next_put];split at hg
  ·exact ho _ hg
  ·exact hb.obj c o hg
def aE.setO {h:ae} {b:Nat} {k:BB} {o:fF} (hb:aE h) (h0:h.n0<=b) (hg:h.getB b=some k) (ho:tQ h.next o=true):aE (h.setO b o):=
 hb.ru h0 (h.lt_of_getB hg) (fun _ e=>by cases e) (fun _ e=>by cases e;exact ho)
def aE.allocO {h:ae} {o:fF} (hb:aE h) (ho:tQ (h.next+1) o=true):aE (h.ba (.obj o)):=by
 refine ⟨fun b k' hg => ?_,fun b o' hg => ?_⟩
 ·have hg:=(h.ba _).aJ hg;rw [ae.bK] at hg;rw [ae.fY];split at hg
  ·cases hg
  ·exact cy (by omega) (hb b k' (h.get_of_getB hg))
 ·rw [ae.bK] at hg;rw [ae.fY];split at hg
  ·cases hg;exact ho
  ·exact bdO_mono (by omega) (hb.obj b o' hg)
def aE.put {h:ae} {b:Nat} {x:Option eh} (hb:aE h) (h0:h.n0<=b) (hn:b<h.next) (hk : ∀ k,x=some k->cT h.next k=true):aE (h.put b (x.map .cells)):=by
 refine hb.ru h0 hn (fun k hx => ?_) (fun o hx => ?_)
 ·cases x with
  |none=>cases hx
  |some k'=>cases hx;exact hk _ rfl
 ·cases x with
  |none=>cases hx
  |some k'=>cases hx
def aE.stL {b off:Nat} {xs:List Vl} {h h':ae} (hb:aE h) (hx:cT h.next xs=true) (e:stL b off xs h=some h'):aE h':=by
 unfold Abs.stL at e;split at e
 ·rename_i k hk;split at e
  ·rename_i hc;simp only [DD,DR] at hc;cases e;exact hb.put (x:=some _) hc.1.1 (h.aL hk) (fun k' hk'=>by cases hk';exact yu (hb b k hk) hx)
  ·cases e
 ·cases e
section ops
variable {P:Program} {h h':ae} {v:Vl}
def xm {size n:Nat} {x:Vl} {cs:List Vl} (hb:aE h) (e:firstA size n x h=some cs):cT h.next cs=true:=by
 unfold firstA at e;split at e
 ·split at e<;>cases e;rfl
 ·split at e
  ·cases e;rfl
  ·split at e
   ·rename_i k hk;split at e
    ·cases e;exact sZ (tk (hb _ k hk))
    ·cases e
   ·cases e
 ·cases e;exact dh (by rw [bD,DQ];intro x hx;obtain ⟨b,_,rfl⟩:=EZ.1 hx;rfl)
 ·cases e
def wT {n:Nat} : ∀ {ts:List (Nat×Nat×Vl)} {cells out:List Vl},cT n cells=true->(∀ t∈ts,b9 n t.2.2=true)->jq cells ts=some out->cT n out=true
 | [],cells,out,hc,_,e=>by simp only [jq,DA] at e;subst e;exact hc
 | (off,k,v)::ts,cells,out,hc,ht,e=>by
   simp only [jq] at e;split at e
   ·exact wT (ts:=ts) (yu hc (vm (ht (off,k,v) (by simp)))) (fun t hm=>ht t (by simp [hm])) e
   ·cases e
def rU {z:List Vl} {n:Nat} (h:bD z=true):bD (dJ z n)=true:=by simp only [bD,DQ,dJ,HV] at h |-;rintro x ⟨_,_,hx⟩;exact h x hx
def bd_append {size by_:Nat} {s x:Vl} (hb:aE h) (hs:b9 h.next s=true) (e:appendA size by_ s x h=some (v,h')):b9 h'.next v=true/\aE h':=by
 unfold appendA at e;split at e
 ·rename_i cK len cap m hm;split at e
  ·cases e
  ·rename_i news hnews;have hn:=xm hb hnews;split at e
   ·cases e
   ·split at e
    ·split at e
     ·cases e;exact ⟨hs,hb⟩
     ·split at e
      ·simp only [DJ,DF] at e;obtain ⟨h1,hst,rfl,rfl⟩:=e;have hgr:h1.next=h.next:=by
        unfold stL at hst;split at hst
        ·split at hst
         ·cases hst;rfl
         ·cases hst
        ·cases hst
       exact ⟨by rw [hgr];simpa [b9] using hs,hb.stL hn hst⟩
      ·cases e
    ·split at e
     ·split at e
      ·simp only [DA,DF] at e;obtain ⟨rfl,rfl⟩:=e;exact ⟨by simp [b9],hb.alloc (cy (by omega) hn)⟩
      ·cases e
     ·split at e
      ·cases e
      ·rename_i olds holds;have ho:=xm hb holds;split at e
       ·cases e
       ·split at e
        ·simp only [DA,DF] at e;obtain ⟨rfl,rfl⟩:=e;exact ⟨by simp [b9],hb.alloc (cy (by omega) (cL ho hn))⟩
        ·split at e
         ·rename_i hc;simp only [DD,DR] at hc;obtain ⟨k,hk⟩:=E9.1 hc.2;simp only [DA,DF] at e;obtain ⟨rfl,rfl⟩:=e;have hkl:aE (h.kill _):=hb.put (x:=none) hc.1.2 (h.aL hk) (fun k' hk'=>by cases hk');exact ⟨by simp [b9],hkl.alloc (cy (by simp) (cL ho hn))⟩
         ·cases e
 ·cases e
def tE {b off:Nat} {xs:List Vl} (e:stL b off xs h=some h'):h'.next=h.next:=by
 unfold stL at e;split at e
 ·split at e
  ·cases e;rfl
  ·cases e
 ·cases e
def bd_ld {t:TypeId} {x:Vl} (hb:aE h) (e:ld P t x h=some (v,h')):b9 h'.next v=true/\aE h':=by
 unfold ld at e;split at e
 ·unfold bQ at e;split at e
  ·split at e
   ·rename_i k hk;split at e
    ·simp only [DA,DF] at e;obtain ⟨rfl,rfl⟩:=e;exact ⟨by rw [jL];exact sZ (tk (hb _ k hk)),hb⟩
    ·cases e
   ·cases e
  ·cases e
 ·unfold ld1 at e;split at e
  ·split at e
   ·rename_i k hk;split at e
    ·rename_i c hc;split at e
     ·simp only [DA,DF] at e;obtain ⟨rfl,rfl⟩:=e;exact ⟨kv (hb _ k hk) hc,hb⟩
     ·cases e
    ·cases e
   ·cases e
  ·cases e
 ·cases e
def bd_st {t:TypeId} {x y:Vl} (hb:aE h) (hy:b9 h.next y=true) (e:st P t x y h=some (v,h')):b9 h'.next v=true/\aE h':=by
 unfold st at e;split at e
 ·unfold bI at e;split at e
  ·split at e
   ·simp only [DJ,DF] at e;obtain ⟨h1,hst,rfl,rfl⟩:=e;exact ⟨rfl,hb.stL (vm hy) hst⟩
   ·cases e
  ·cases e
 ·cases e
def yz {n size:Nat} {x r:Vl} {lo hi mx:Option Vl} (hx:b9 n x=true) (e:sliceSl size x lo hi mx=some r):b9 n r=true:=by
 unfold sliceSl at e
 repeat' split at e
 all_goals first
  | (cases e;done)
  | (cases e;first|rfl|(simpa [b9] using hx))
def vr {n k size:Nat} {x r:Vl} {lo hi mx:Option Vl} (hx:b9 n x=true) (e:sliceArr k size x lo hi mx=some r):b9 n r=true:=by
 unfold sliceArr at e
 repeat' split at e
 all_goals first
  | (cases e;done)
  | (cases e;simpa [b9] using hx)
def bd_slice {n:Nat} {t:TypeId} {x r:Vl} {lo hi mx:Option Vl} (hx:b9 n x=true) (e:sliceA P t x lo hi mx=some r):b9 n r=true:=by
 unfold sliceA at e;split at e
 ·simp only [DU] at e;obtain ⟨z,_,e⟩:=e;exact vr hx e
 ·split at e
  ·simp only [DU] at e;obtain ⟨z,_,e⟩:=e;exact vr hx e
  ·cases e
 ·split at e
  ·cases e
  ·simp only [DU] at e;obtain ⟨z,_,e⟩:=e;exact yz hx e
 ·split at e
  ·exact yz hx e
  ·cases e
 ·cases e
def bd_addP {n k:Nat} {x r:Vl} (hx:b9 n x=true) (e:aC x k=some r):b9 n r=true:=by
 unfold aC at e;split at e
 ·cases e;simpa [b9,ptr] using hx
 ·cases e
def bd_fieldAt {n:Nat} {t:TypeId} {x r:Vl} {i:Nat} (hx:b9 n x=true) (e:fieldAtA P t x i=some r):b9 n r=true:=by
 unfold fieldAtA at e
 repeat' split at e
 all_goals first
  | (cases e;done)
  |exact bd_addP hx e
def bd_indexAt {n:Nat} {t:TypeId} {x ix r:Vl} (hx:b9 n x=true) (e:indexAtA P t x ix=some r):b9 n r=true:=by
 unfold indexAtA at e;split at e
 ·simp only [DU] at e;obtain ⟨z,_,e⟩:=e;unfold idxA at e
  repeat' split at e
  all_goals first
   | (cases e;done)
   |exact bd_addP hx e
 ·simp only [DU] at e;obtain ⟨z,_,e⟩:=e;unfold idxS at e
  repeat' split at e
  all_goals first
   | (cases e;done)
   | (cases e;simpa [b9,ptr] using hx)
 ·cases e
def bd_part {n:Nat} {t:TypeId} {cs:Array Vl} {off:Nat} {r:Vl} (hx:cT n cs.toList=true) (e:pk P t cs off=some r):b9 n r=true:=by
 unfold pk at e;split at e
 ·cases e;rw [jL];have : ∀ k,(cs.extract off (off+k)).toList=(cs.toList.drop off).take k:=by intro k;simp
  rw [this];exact sZ (tk hx)
 ·exact kv (i:=off) hx (by simpa using e)
 ·cases e
def bd_field {n:Nat} {t:TypeId} {x r:Vl} {i:Nat} (hx:b9 n x=true) (e:fieldA P t x i=some r):b9 n r=true:=by
 unfold fieldA at e;split at e
 ·split at e
  ·rw [jL] at hx;exact bd_part hx e
  ·cases e
 ·cases e
def bd_index {n:Nat} {t:TypeId} {x ix r:Vl} (hx:b9 n x=true) (e:indexA P t x ix=some r):b9 n r=true:=by
 unfold indexA at e;split at e
 ·split at e
  ·simp only [DU] at e;obtain ⟨z,_,e⟩:=e;rw [jL] at hx;exact bd_part hx e
  ·cases e
 ·split at e
  ·simp only [DJ] at e;obtain ⟨b,_,rfl⟩:=e;rfl
  ·cases e
 ·cases e
def bd_extract {n:Nat} {x r:Vl} {i:Nat} (hx:b9 n x=true) (e:extractA x i=some r):b9 n r=true:=by
 unfold extractA at e;split at e
 ·rw [AU] at hx;exact kv (i:=i) hx (by simpa using e)
 ·cases e
def bd_nil {n:Nat} {x r:Vl} (hx:b9 n x=true) (e:nilCheckA x=some r):b9 n r=true:=by unfold nilCheckA at e;split at e<;>cases e<;>exact hx
def bd_build {n:Nat} {t:TypeId} {ps:List (Nat×Vl)} {r:Vl} (hx : ∀ p∈ps,b9 n p.2=true) (e:buildA P t ps=some r):b9 n r=true:=by
 unfold buildA at e;split at e
 ·split at e
  ·rename_i hf;simp only [DD] at hf;split at e
   ·rename_i ts hts;simp only [DJ] at e;obtain ⟨cs,hcs,rfl⟩:=e;rw [jL];refine wT (dh hf.1) ?_ hcs;have key : ∀ {fs:Array Field} {ps:List (Nat×Vl)} {ts},(∀ p∈ps,b9 n p.2=true)->fieldPlaces P fs ps=some ts -> ∀ t∈ts,b9 n t.2.2=true:=by
     intro fs ps;induction ps with
     |nil=>intro ts _ h;simp [fieldPlaces] at h;subst h;simp
     |cons p ps ih=>
      intro ts hp h;unfold fieldPlaces at h;rw [FJ] at h;simp only [bind,DU,pure,DA] at h;obtain ⟨a,ha,l,hl,rfl⟩:=h;split at ha
      ·simp only [DJ] at ha;obtain ⟨k,_,rfl⟩:=ha;intro t ht;rcases ER.1 ht with rfl|ht
       ·exact hp p (by simp)
       ·exact ih (fun q hq=>hp q (by simp [hq])) hl t ht
      ·cases ha
    exact key hx hts
   ·cases e
  ·cases e
 ·split at e
  ·split at e
   ·rename_i hf;simp only [DJ] at e;obtain ⟨cs,hcs,rfl⟩:=e;rw [jL];refine wT (dh hf) ?_ hcs;intro t ht;obtain ⟨p,hp,rfl⟩:=EZ.1 ht;exact hx p hp
   ·cases e
  ·cases e
 ·cases e
def bd_conv {s d:TypeId} {x:Vl} (hb:aE h) (hx:b9 h.next x=true) (e:convA P s d x h=some (v,h')):b9 h'.next v=true/\aE h':=by
 unfold convA at e
 repeat' split at e
 all_goals first
  | (cases e;done)
  | (simp only [DA,DF] at e
     obtain ⟨rfl,rfl⟩:=e;first
      |exact ⟨rfl,hb⟩
      |exact ⟨hx,hb⟩
      |exact ⟨by simp [b9],hb.alloc (dh (by rw [bD,DQ];intro x hx;obtain ⟨b,_,rfl⟩:=EZ.1 hx;rfl))⟩)
def bd_make {t:TypeId} {l c:Vl} (hb:aE h) (e:makeA P t l c h=some (v,h')):b9 h'.next v=true/\aE h':=by
 unfold makeA at e;split at e
 ·split at e
  ·split at e
   ·rename_i hc;simp only [DD,DR] at hc;simp only [DA,DF] at e;obtain ⟨rfl,rfl⟩:=e;exact ⟨by simp [b9],hb.alloc (dh (rU hc.1.1.2))⟩
   ·cases e
  ·cases e
 ·cases e
def zJ {t:TypeId} {len:Nat} {ps:List (Nat×Vl)} (hb:aE h) (hx : ∀ p∈ps,b9 h.next p.2=true) (e:buildSliceA P t len ps h=some (v,h')):b9 h'.next v=true/\aE h':=by
 unfold buildSliceA at e;split at e
 ·split at e
  ·split at e
   ·rename_i hc;simp only [DD,DR] at hc;split at e
    ·rename_i cs hcs;simp only [DA,DF] at e;obtain ⟨rfl,rfl⟩:=e;refine ⟨by simp [b9],hb.alloc (cy (HH _) (wT (dh (rU hc.1.1.1.1)) ?_ hcs))⟩;intro t ht;obtain ⟨p,hp,rfl⟩:=EZ.1 ht;exact hx p hp
    ·cases e
   ·cases e
  ·cases e
 ·cases e
def uE {n:Nat} {mx:Bool} : ∀ {l:List Vl} {x r:Vl},b9 n x=true->minmax mx x l=some r->b9 n r=true
 | [],x,r,hx,e=>by cases e;exact hx
 |y::l,x,r,hx,e=>by
  unfold minmax at e;split at e
  ·rename_i h;cases h
  ·rename_i k a k' b rest heq;cases heq;split at e
   ·exact uE (l:=l) rfl e
   ·cases e
  ·cases e
def bd_entries {x:Vl} {es:List (Vl×Vl×Nat)} (hb:aE h) (e:entriesA x h=some es) : ∀ p∈es,b9 h.next p.1=true/\b9 h.next p.2.1=true:=by
 unfold entriesA at e;split at e
 ·cases e;simp
 ·split at e
  ·rename_i b es' c hg;cases e;have:=hb.obj _ _ hg;simpa [tQ] using this
  ·cases e
 ·cases e
def na {t:TypeId} {k:Vl} : ∀ {es:List (Vl×Vl×Nat)} {n i:Nat} {v:Vl},findA P t k es n=some (some (i,v))->n<=i /\ ∃ x,es[i-n]? = some x/\x.2.1=v/\eqA P t k x.1=some true
 | [],n,i,v,e=>by simp [findA] at e
 |x::es,n,i,v,e=>by
  unfold findA at e;split at e
  ·rename_i he;simp only [DA,DF] at e;obtain ⟨rfl,rfl⟩:=e;exact ⟨DG _,x,by simp,rfl,he⟩
  ·obtain ⟨h1,y,h2,h3⟩:=na e;refine ⟨by omega,y,?_,h3⟩;rw [show i-n=(i-(n+1))+1 by omega];exact h2
  ·cases e
def bd_lookup {t:TypeId} {x k:Vl} {ok:Bool} (hb:aE h) (e:lookupA P t x k ok h=some (v,h')):b9 h'.next v=true/\aE h':=by
 have gr : ∀ {z:Vl},ground z=true->b9 h.next z=true:=by
  intro z hz;cases z with
  |agg cs=>rw [jL];exact dh (by simpa [ground] using hz)
  |_=>exact je hz
 unfold lookupA at e;split at e
 ·rename_i kt et es _ hes;split at e
  ·split at e
   ·rename_i i v1 z hf hz;obtain ⟨_,y,hy,rfl,_⟩:=na hf;have hm:=bd_entries hb hes y (D7 hy);simp only [DA,DF] at e;obtain ⟨rfl,rfl⟩:=e;refine ⟨?_,hb⟩;split
    ·simp [b9,cT,hm.2]
    ·exact hm.2
   ·rename_i z hz;split at e
    ·rename_i hgz;simp only [DA,DF] at e;obtain ⟨rfl,rfl⟩:=e;refine ⟨?_,hb⟩;split
     ·simp [b9,cT,gr hgz]
     ·exact gr hgz
    ·cases e
   ·cases e
  ·cases e
 ·cases e
def qA {n:Nat} {z:Vl} (hz:ground z=true):b9 n z=true:=by
 cases z with
 |agg cs=>rw [jL];exact dh (by simpa [ground] using hz)
 |_=>exact je hz
def lS {n:Nat} {es:List (Vl×Vl×Nat)} {c:Nat} {i:Nat} {x:Vl×Vl×Nat} (hb:tQ n (.map es c)=true) (h1:b9 n x.1=true) (h2:b9 n x.2.1=true) (c':Nat):tQ n (.map (es.set i x) c')=true:=by
 simp only [tQ,DQ,DD] at hb |-;intro y hy;rcases GO hy with h|h
 ·exact hb y h
 ·subst h;exact ⟨h1,h2⟩
def pZ {n:Nat} {es:List (Vl×Vl×Nat)} {c:Nat} {x:Vl×Vl×Nat} (hb:tQ n (.map es c)=true) (h1:b9 n x.1=true) (h2:b9 n x.2.1=true) (c':Nat):tQ n (.map (es ++ [x]) c')=true:=by
 simp only [tQ,DQ,DD] at hb |-;intro y hy;rcases D8.1 hy with h|h
 ·exact hb y h
 ·rw [FB.1 h];exact ⟨h1,h2⟩
def lW {n:Nat} {es:List (Vl×Vl×Nat)} {c i:Nat} {x:Vl×Vl×Nat} (hb:tQ n (.map es c)=true) (hx:es[i]? = some x):b9 n x.1=true/\b9 n x.2.1=true:=by simp only [tQ,DQ,DD] at hb;exact hb x (D7 hx)
def tu {t:TypeId} {m k x:Vl} (hb:aE h) (hx:b9 h.next x=true) (e:mapUpdateA P t m k x h=some (v,h')):b9 h'.next v=true/\aE h':=by
 unfold mapUpdateA at e;split at e
 ·split at e
  ·rename_i b es clock hg;have ho:=hb.obj _ _ hg;have h0:=h.bS hg;split at e
   ·rename_i hk;simp only [DD] at hk;have hkb:=qA (n:=h.next) hk.2;split at e
    ·split at e
     ·split at e
      ·cases e;exact ⟨rfl,hb.setO h0 hg (lS ho hkb hx _)⟩
      ·cases e
     ·cases e
    ·cases e;exact ⟨rfl,hb.setO h0 hg (pZ ho hkb hx _)⟩
    ·cases e
   ·cases e
  ·cases e
 ·cases e
def bd_mapEntry {t:TypeId} {m k:Vl} (hb:aE h) (e:iO P t m k h=some (v,h')):b9 h'.next v=true/\aE h':=by
 unfold iO at e;split at e
 ·split at e
  ·rename_i b es clock hg;have ho:=hb.obj _ _ hg;have h0:=h.bS hg;split at e
   ·rename_i hk;simp only [DD] at hk;have hkb:=qA (n:=h.next) hk.2;split at e
    ·rename_i i v1 hf;obtain ⟨_,y,hy,rfl,_⟩:=na hf;split at e
     ·rename_i x hx;split at e
      ·cases e;have hm:=lW ho hx;have hm2:=lW ho hy;exact ⟨by simp only [ae.mW,b9,cT,EJ,hm2.2,EU];rfl,hb.setO h0 hg (lS (x:=(k,x.2.1,x.2.2)) ho hkb hm.2 _)⟩
      ·cases e
     ·cases e
    ·split at e
     ·rename_i z hz;split at e
      ·rename_i hgz;cases e;exact ⟨by simp only [ae.mW,b9,cT,EJ,qA hgz,EU];rfl,hb.setO h0 hg (pZ ho hkb (qA hgz) _)⟩
      ·cases e
     ·cases e
    ·cases e
   ·cases e
  ·cases e
 ·cases e
def Af {m s x:Vl} (hb:aE h) (hx:b9 h.next x=true) (e:entryStoreA m s x h=some (v,h')):b9 h'.next v=true/\aE h':=by
 unfold entryStoreA at e;split at e
 ·split at e
  ·rename_i b n es clock hg;have ho:=hb.obj _ _ hg;have h0:=h.bS hg;split at e
   ·split at e
    ·rename_i y hy;cases e;exact ⟨rfl,hb.setO h0 hg (lS (x:=(y.1,x,y.2.2)) ho (lW ho hy).1 hx _)⟩
    ·cases e
   ·cases e
  ·cases e
 ·cases e
def bd_makeMap {r:Option Vl} {t:TypeId} (hb:aE h) (e:dX r P t h=some (v,h')):b9 h'.next v=true/\aE h':=by
 unfold dX at e;split at e
 ·cases e;exact ⟨by simp [b9],hb.allocO rfl⟩
 ·split at e
  ·cases e;exact ⟨by simp [b9],hb.allocO rfl⟩
  ·cases e
 ·cases e
def bd_range {t:TypeId} {x:Vl} (hb:aE h) (e:rangeA P t x h=some (v,h')):b9 h'.next v=true/\aE h':=by
 unfold rangeA at e;split at e
 ·cases e;exact ⟨by simp [b9,ptr],hb.allocO rfl⟩
 ·split at e
  ·rename_i b es clock hg;cases e;have:=h.lt_of_getB hg;exact ⟨by simp [b9,ptr],hb.allocO (by simp only [tQ,DR];omega)⟩
  ·cases e
 ·cases e
def bd_nexts {it:Vl} {l:List (Vl×ae)} (hb:aE h) (e:nextsA it h=some l) : ∀ p∈l,b9 p.2.next p.1=true/\aE p.2:=by
 unfold nextsA at e;split at e
 ·split at e
  ·cases e;intro p hp;rw [FB.1 hp];exact ⟨rfl,hb⟩
  ·rename_i r m since seen last hr;split at e
   ·rename_i es clock hm;simp only [DJ] at e;obtain ⟨cs,hc,rfl⟩:=e;intro p hp;obtain ⟨c,hcm,rfl⟩:=EZ.1 hp;cases c with
    |none=>exact ⟨rfl,hb⟩
    |some c=>
     unfold pO at hc;split at hc
     ·cases hc
     ·simp only [DA] at hc;subst hc;have hin:c∈es:=by
       rcases D8.1 hcm with h1|h1
       ·split at h1
        ·simp at h1
        ·cases h1
       ·simp only [GA,D8,EZ,DA,exists_eq_right] at h1;rcases h1 with h1|h1
        ·exact (FN.1 (FN.1 h1).1).1
        ·exact (FN.1 (FN.1 h1).1).1
      have hbm:=hb.obj _ _ hm;simp only [tQ,DQ,DD] at hbm;have hq:=hbm c hin;refine ⟨by simp only [stepTo,ae.mW,b9,cT,hq.1,hq.2,GW],hb.setO (h.bS hr) hr ?_⟩;simp only [tQ,DR];exact h.lt_of_getB hm
   ·cases e
  ·cases e
 ·cases e
def bd_next {it:Vl} {str:Bool} (hb:aE h) (e:nextA it str h=some (v,h')):b9 h'.next v=true/\aE h':=by
 unfold nextA at e;split at e
 ·cases e
 ·split at e
  ·rename_i r hr;cases e;exact bd_nexts hb hr (v,h') (by simp)
  ·cases e
def bd_delete {t:TypeId} {m k:Vl} (hb:aE h) (e:deleteA P t m k h=some (v,h')):b9 h'.next v=true/\aE h':=by
 unfold deleteA at e;split at e
 ·split at e
  ·split at e
   ·cases e;exact ⟨rfl,hb⟩
   ·split at e
    ·rename_i b es clock hg;have ho:=hb.obj _ _ hg;have h0:=h.bS hg;split at e
     ·cases e;refine ⟨rfl,hb.setO h0 hg ?_⟩;simp only [tQ,DQ,DD] at ho |-;exact fun x hx=>ho x (List.mem_of_mem_eraseIdx hx)
     ·cases e;exact ⟨rfl,hb.setO h0 hg ho⟩
     ·cases e
    ·cases e
   ·cases e
  ·cases e
 ·cases e
def bd_mapClear {x:Vl} (hb:aE h) (e:jx x h=some (v,h')):b9 h'.next v=true/\aE h':=by
 unfold jx at e;split at e
 ·cases e;exact ⟨rfl,hb⟩
 ·split at e
  ·rename_i b es clock hg;cases e;exact ⟨rfl,hb.setO (h.bS hg) hg rfl⟩
  ·cases e
 ·cases e
def bd_builtin {b:Builtin} {ts:List TypeId} {args:List Vl} (hb:aE h) (ha:cT h.next args=true) (e:builtinA P b ts args h=some (v,h')):b9 h'.next v=true/\aE h':=by
 unfold builtinA at e;split at e
 ·simp only [cT,DD] at ha
  repeat' split at e
  all_goals first
   | (cases e;done)
   |exact bd_append hb ha.1 e
 ·split at e
  ·simp only [DU] at e;obtain ⟨n,_,e⟩:=e;unfold js at e;split at e
   ·simp only at e;split at e
    ·cases e
    ·rename_i news hn;split at e
     ·cases e;exact ⟨rfl,hb⟩
     ·split at e
      ·cases e
      ·simp only [DJ,DF] at e;obtain ⟨h1,hst,rfl,rfl⟩:=e;exact ⟨rfl,hb.stL (xm hb hn) hst⟩
   ·cases e
  ·cases e
 ·split at e
  ·simp only [DU] at e;obtain ⟨n,_,e⟩:=e;unfold clearA at e;split at e
   ·cases e;exact ⟨rfl,hb⟩
   ·split at e
    ·cases e;exact ⟨rfl,hb⟩
    ·split at e
     ·split at e
      ·rename_i hc;simp only [DD,DR] at hc;simp only [DJ,DF] at e;obtain ⟨h1,hst,rfl,rfl⟩:=e;exact ⟨rfl,hb.stL (dh (rU hc.1.1)) hst⟩
      ·cases e
     ·cases e
   ·cases e
  ·split at e
   ·exact bd_mapClear hb e
   ·cases e
 ·split at e
  ·rename_i r hr;cases e;unfold lenOfT at hr
   repeat' split at hr
   all_goals first
    | (cases hr;done)
    | (cases hr;exact ⟨rfl,hb⟩)
  ·split at e
   ·simp only [DJ,DF] at e;obtain ⟨r,hr,rfl,rfl⟩:=e;unfold wR at hr;simp only [DJ] at hr;obtain ⟨_,_,rfl⟩:=hr;exact ⟨rfl,hb⟩
   ·cases e
 ·exact bd_delete hb e
 ·simp only [cT,DD] at ha;simp only [DJ,DF] at e;obtain ⟨r,hr,rfl,rfl⟩:=e;exact ⟨uE ha.1 hr,hb⟩
 ·simp only [cT,DD] at ha;simp only [DJ,DF] at e;obtain ⟨r,hr,rfl,rfl⟩:=e;exact ⟨uE ha.1 hr,hb⟩
 ·cases e
end ops
end
end Go.Abs
