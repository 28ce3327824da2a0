/-
  A part of the proof, spaces and names shortened by a program (a claim may hold 1,500,000 bytes).
  Conditions: as each theorem states.
-/
import Derived.Test.YtdnahgfgoajmcaaGreatDoorG1
import Derived.Orders
import Derived.Scope
import Derived.WalkKit
namespace Go.Abs
section
section ops
variable {P:Program} {μ:Mu} {h:ai} {w:World}
theorem make_sound {t:TypeId} {l l' c c' r:Value} {h':ai} (s:cI μ h w) (hf:fK μ h h') (hl:aI μ l l') (hc:aI μ c c') (e:makeA P t l c h=some (r,h')) :
  ∃ μ' r' w',(Instr.makeSlice t l' c').run P w = .ok r' w'/\cI μ' h' w'/\cH μ h w μ' h' w'/\aI μ' r r':=by
 unfold makeA at e;cases hu:P.underlying t with
 |none=>rw [show elemT P t=none from by simp [elemT,hu]] at e;cases e
 |some d=>
  cases d with
  |slice el=>
   rw [show elemT P t=some el from by simp [elemT,hu]] at e;split at e
   ·rename_i _ _ _ l c heq;cases heq;rw [hl.int,hc.int];split at e
    ·rename_i n jt z hn hb hz;split at e
     ·rename_i hcond;simp only [DK,DS] at hcond;obtain ⟨⟨⟨⟨⟨⟨h0,h1⟩,h2⟩,h3⟩,hfl⟩,hzn⟩,hpos⟩:=hcond;simp only [DA,DN] at e;obtain ⟨rfl,rfl⟩:=e;obtain ⟨i,hi,hin⟩:=mU hn;have hib:i.bytes=jt:=by simp only [yp,hi,Option.map_some,DA] at hb;exact hb
      have wl:IntKind.i64.wrap l=l:=IntWalk.i64_in _ (by omega);have wc:IntKind.i64.wrap c=c:=IntWalk.i64_in _ (by omega);have hz1:dj z.cells.toList c.toNat=(List.range (c.toNat*n)).map fun i=>z.cells[i%z.cells.size]! := by rw [<-hzn,mF z.cells (by omega)]
      obtain ⟨μ',w',hrun,hS,hSt,L,hL,hB,hO,_⟩:=kJ (P:=P) s hf (aR.jU (μ:=μ) (l:=dj z.cells.toList c.toNat) (by simp only [bI,DR,dj,HO] at hfl |-;rintro x ⟨_,_,hx⟩;exact hfl x hx)) el
      have harr:(Array.range (c.toNat*n)).map (fun i=>z.cells[i%z.cells.size]!)=(dj z.cells.toList c.toNat).toArray:=by apply IL;rw [hz1];simp
      refine ⟨μ',.slice (some ⟨w.heap.size,0,none⟩) l.toNat c.toNat,w',?_,hS,hSt,?_⟩
      ·have hlarge:(decide (c<0)||decide ((i.bytes:Int)*c>2^48))=false:=by
        rw [hib];simp only [Bool.or_eq_false_iff,FX];refine ⟨by omega,?_⟩;have:(2:Int)^48=281474976710656:=by decide
        omega
       unfold Instr.makeSlice;simp only [Sem.run_bind,run_underlying hu,Result.andThen_ok,asInt,asIntOf,Sem.run_pure,eP w hi,wl,wc];rw [hlarge];have hlt:decide (l<0)=false:=by simp;omega
       have hgt:decide (l>c)=false:=by simp;omega
       simp only [hlt,hgt,Bool.or_self,DG,EF,Sem.run_bind,run_askRoom,Result.andThen_ok,cY w hn];by_cases hcz:c.toNat*n=0
       ·have hr0:Array.range (c.toNat*n) = #[]:=by rw [hcz];rfl
        have hnil:dj z.cells.toList c.toNat = []:=by rw [hz1,hcz];rfl
        rw [hnil] at hrun;rw [DL hcz,hr0];simp [hrun]
       ·rw [DM hcz];simp only [Sem.run_bind,fT w hz,Result.andThen_ok,Sem.run_pure,harr,hrun]
      ·have:=aI.slice (off:=0) (len:=l.toNat) (cap:=c.toNat) hL;rw [hB,hO] at this;exact this
     ·cases e
    ·cases e
   ·cases e
  |_=>rw [show elemT P t=none from by simp [elemT,hu]] at e;cases e
def sz (μ:Mu) (x y:Option Value):Prop:=(x=none/\y=none) \/ ∃ a b,x=some a/\y=some b/\aI μ a b
theorem yC {d y n:Nat} {x x':Option Value} (hx:sz μ x x') (e:boundA d y x=some n):x'=x:=by
 rcases hx with ⟨rfl,rfl⟩|⟨a,b,rfl,rfl,hv⟩
 ·rfl
 ·unfold boundA at e;split at e
  ·rename_i heq;cases heq
  ·rename_i k i heq;cases heq;rw [hv.int]
  ·cases e
theorem jE {len cap:Nat} {lo hi mx lo' hi' mx':Option Value} {r:Nat×Nat×Nat} (h1:sz μ lo lo') (h2:sz μ hi hi') (h3:sz μ mx mx') (e:boundsA len cap lo hi mx=some r) :
  lo'=lo/\hi'=hi/\mx'=mx:=by
 unfold boundsA at e;split at e
 ·rename_i m hm;split at e
  ·cases e
  ·split at e
   ·rename_i h hh;split at e
    ·rename_i l hl;exact ⟨yC h1 hl,yC h2 hh,yC h3 hm⟩
    ·cases e
   ·cases e
 ·cases e
theorem gZ {d y n:Nat} {v:Value} {code:BoundsCode} (e:boundA d y (some v)=some n):(Instr.sliceBound v y code).run P w = .ok n w:=by
 unfold boundA at e;split at e
 ·rename_i heq;cases heq
 ·rename_i k i heq;cases heq;split at e
  ·rename_i hc;cases e;simp [Instr.sliceBound,asIntOf,hc]
  ·cases e
 ·cases e
theorem oL {isSl:Bool} {len cap:Nat} {lo hi mx:Option Value} {r:Nat×Nat×Nat} (e:boundsA len cap lo hi mx=some r) :
  (Instr.sliceBounds isSl len cap lo hi mx).run P w = .ok r w:=by
 unfold boundsA at e;split at e
 ·rename_i m hm;split at e
  ·cases e
  ·rename_i hne;split at e
   ·rename_i h hh;split at e
    ·rename_i l hl;cases e;unfold Instr.sliceBounds;cases mx with
     |none=>
      simp only [boundA,DA] at hm;subst hm;cases hi with
      |none=>
       simp only [boundA,DA] at hh;subst hh;cases lo with
       |none=>simp only [boundA,DA] at hl;subst hl;simp
       |some v=>simp [gZ hl]
      |some u=>
       cases lo with
       |none=>simp only [boundA,DA] at hl;subst hl;simp [gZ hh]
       |some v=>simp [gZ hl,gZ hh]
     |some t=>
      cases hi with
      |none=>exact (hne _ rfl rfl).elim
      |some u=>
       cases lo with
       |none=>simp only [boundA,DA] at hl;subst hl;simp [gZ hh,gZ hm]
       |some v=>simp [gZ hl,gZ hh,gZ hm]
    ·cases e
   ·cases e
 ·cases e
theorem vk {len cap:Nat} {lo hi mx:Option Value} {l h m:Nat} (hlc:len<=cap) (e:boundsA len cap lo hi mx=some (l,h,m)):l<=h/\h<=m/\(mx=none->m=cap):=by
 have b : ∀ {d y n:Nat} {x:Option Value},boundA d y x=some n->(x=none/\n=d)\/n<=y:=by
  intro d y n x e;unfold boundA at e;split at e
  ·cases e;exact .inl ⟨rfl,rfl⟩
  ·split at e
   ·rename_i hc;cases e;right;omega
   ·cases e
  ·cases e
 unfold boundsA at e;split at e
 ·rename_i m' hm;split at e
  ·cases e
  ·rename_i hne;split at e
   ·rename_i h' hh;split at e
    ·rename_i l' hl;cases e;have hm':m=cap\/mx≠none:=by
      cases mx with
      |none=>simp only [boundA,DA] at hm;exact .inl hm.symm
      |some v=>right;simp
     refine ⟨?_,?_,?_⟩
     ·rcases b hl with ⟨_,rfl⟩|h1
      ·exact FN _
      ·exact h1
     ·rcases b hh with ⟨h0,rfl⟩|h1
      ·subst h0;cases mx with
       |none=>simp only [boundA,DA] at hm;omega
       |some v=>exact (hne _ rfl rfl).elim
      ·exact h1
     ·intro h0;subst h0;simp only [boundA,DA] at hm;exact hm.symm
    ·cases e
   ·cases e
 ·cases e
theorem yv {len cap cap':Nat} {lo hi:Option Value} {l h m:Nat} (hc:cap<=cap') (e:boundsA len cap lo hi none=some (l,h,m)):boundsA len cap' lo hi none=some (l,h,cap'):=by
 have b : ∀ {d y y' n:Nat} {x:Option Value},y<=y'->boundA d y x=some n->boundA d y' x=some n:=by
  intro d y y' n x hy e;unfold boundA at e |-;split at e
  ·exact e
  ·split at e
   ·rename_i hc;rw [DL (by omega)];exact e
   ·cases e
  ·cases e
 have hn : ∀ c,boundA c c none=some c:=fun _=>rfl;unfold boundsA at e |-;rw [hn] at e |-;cases hi with
 |none=>
  simp only at e |-;have hl:boundA len cap none=some len:=rfl;have hl':boundA len cap' none=some len:=rfl;rw [hl] at e;rw [hl'];simp only at e |-;split at e
  ·cases e;rfl
  ·cases e
 |some u=>
  simp only at e |-;split at e
  ·rename_i h' hh;rw [b hc hh];simp only;split at e
   ·cases e;rfl
   ·cases e
  ·cases e
theorem bounds_le' {len cap:Nat} {lo hi:Option Value} {u:Value} {l h m:Nat} (e:boundsA len cap lo hi (some u)=some (l,h,m)):l<=h/\h<=m/\m<=cap:=by
 have b : ∀ {d y n:Nat} {x:Option Value},boundA d y x=some n->(x=none/\n=d)\/n<=y:=by
  intro d y n x e;unfold boundA at e;split at e
  ·cases e;exact .inl ⟨rfl,rfl⟩
  ·split at e
   ·rename_i hc;cases e;right;omega
   ·cases e
  ·cases e
 unfold boundsA at e;split at e
 ·rename_i m' hm;split at e
  ·cases e
  ·rename_i hne;split at e
   ·rename_i h' hh;split at e
    ·rename_i l' hl;cases e;refine ⟨?_,?_,by rcases b hm with ⟨q,_⟩|h1;exact absurd q (by simp);exact h1⟩
     ·rcases b hl with ⟨_,rfl⟩|h1
      ·exact FN _
      ·exact h1
     ·rcases b hh with ⟨h0,rfl⟩|h1
      ·subst h0;exact (hne _ rfl rfl).elim
      ·exact h1
    ·cases e
   ·cases e
 ·cases e
theorem bounds_capS {len cap cap':Nat} {lo hi:Option Value} {u:Value} {r:Nat×Nat×Nat} (hc:cap<=cap') (e:boundsA len cap lo hi (some u)=some r):boundsA len cap' lo hi (some u)=some r:=by
 have hm : ∀ n,boundA cap cap (some u)=some n->boundA cap' cap' (some u)=some n:=by
  intro n e;unfold boundA at e |-;cases u with
  |int k i=>
   simp only at e |-;split at e
   ·rename_i h;rw [DL ⟨h.1,by omega⟩];exact e
   ·cases e
  |_=>cases e
 unfold boundsA at e |-;cases hb:boundA cap cap (some u) with
 |none=>rw [hb] at e;cases e
 |some m=>
  rw [hb] at e;rw [hm m hb];exact e
theorem AE {t el:TypeId} {size:Nat} {x x' r:Value} {lo hi mx lo' hi' mx':Option Value} (hu:P.underlying t=some (.slice el)) (hz:cS P el=some size)
  (hx:aI μ x x') (h1:sz μ lo lo') (h2:sz μ hi hi') (h3:sz μ mx mx') (hstr : ∀ s,x ≠ .string s) (e:sliceSl size x lo hi mx=some r) :
  ∃ r',(Instr.slice t x' lo' hi' mx').run P w = .ok r' w/\aI μ r r':=by
 have run : ∀ (a:Option Addr) (len cap:Nat) {l h m:Nat},boundsA len cap lo' hi' mx'=some (l,h,m) ->
   (Instr.slice t (.slice a len cap) lo' hi' mx').run P w = .ok (.slice (if m=l then a else a.map (·.add (l*size))) (h-l) (m-l)) w:=by
  intro a len cap l h m hb;unfold Instr.slice;simp [run_underlying hu,oL (P:=P) (w:=w) hb,cY w hz]
 unfold sliceSl at e;split at e
 ·rename_i len cap;split at e
  ·rename_i l h m hb;cases e;obtain ⟨rfl,rfl,rfl⟩:=jE h1 h2 h3 hb;rw [hx.bM rfl];exact ⟨_,run _ _ _ hb,by
    have:(if m=l then (none:Option Addr) else Option.map (fun (a:Addr)=>a.add (l*size)) none)=none:=by split<;>rfl
    rw [this];exact .flat rfl⟩
  ·cases e
 ·rename_i b off len cap;split at e
  ·rename_i l h m hb;cases e;obtain ⟨rfl,rfl,rfl⟩:=jE h1 h2 h3 hb;cases hx with
   |flat h=>simp [flat] at h
   |slice hL=>
    rename_i L;refine ⟨_,run _ _ _ hb,?_⟩;by_cases hm:m=l
    ·simp only [hm,EA];exact .slice hL
    ·simp only [hm,EF,Option.map_some,Addr.add_lit];have:=aI.slice (off:=off+l*size) (len:=h-l) (cap:=m-l) hL;rw [<-Nat.add_assoc] at this;exact this
  ·cases e
 ·rename_i b off s len cap;split at e
  ·rename_i u;split at e
   ·rename_i l h m hb;split at e
    ·rename_i hs;obtain ⟨hs,hs0⟩:=hs;subst hs;obtain ⟨rfl,rfl,rfl⟩:=jE h1 h2 h3 hb;obtain ⟨k1,k2,k9⟩:=bounds_le' hb;cases hx with
     |flat h=>simp [flat] at h
     |vx hL hl hc hm' g1 g2=>
      rename_i cap' L;have hb':=bounds_capS hc hb;refine ⟨_,run _ _ _ hb',?_⟩;by_cases hm:m=l
      ·rw [DL hm] at e;cases e;obtain rfl:h=m:=by omega
       subst hm;simp only [EA,IM];exact .jD hL
      ·rw [DM hm] at e;cases e;simp only [hm,EF,Option.map_some,Addr.add_lit];have:=aI.slice (off:=off+l*s) (len:=h-l) (cap:=m-l) hL;rw [<-Nat.add_assoc] at this;exact this
     |jD hL=>
      rename_i O L;have hm0:m=0:=by omega
      obtain rfl:m=0:=hm0;obtain rfl:h=0:=by omega
      obtain rfl:l=0:=by omega
      rw [DL rfl] at e;cases e;refine ⟨_,run _ _ _ hb,?_⟩;simp only [EA];exact .jD hL
     |zu=>exact absurd rfl hs0
    ·cases e
   ·cases e
  ·split at e
   ·rename_i l h m hb;split at e
    ·rename_i hs;obtain ⟨hs,hs0⟩:=hs;subst hs;cases e;obtain ⟨rfl,rfl,rfl⟩:=jE h1 h2 h3 hb;cases hx with
     |flat h=>simp [flat] at h
     |vx hL hl hc hm' g1 g2=>
      rename_i cap' L;have hb':=yv hc hb;obtain ⟨k1,k2,k3⟩:=vk hl hb;have k3:=k3 rfl;subst k3;refine ⟨_,run _ _ _ hb',?_⟩;by_cases hm:cap'=l
      ·simp only [hm,EA];obtain rfl:m=l:=by omega
       obtain rfl:h=m:=by omega
       rw [IM];exact .jD hL
      ·simp only [hm,EF,Option.map_some,Addr.add_lit];have e1:off+l*s+(m-l)*s=off+m*s:=by rw [GL,<-Nat.add_mul];congr 2;omega
       have e2:off+l*s+(cap'-l)*s=off+cap'*s:=by rw [GL,<-Nat.add_mul];congr 2;omega
       have:=aI.vx (off:=off+l*s) (len:=h-l) (cap:=m-l) (cap':=cap'-l) (s:=s) hL (by omega) (by omega) (by unfold maxLen at hm' |-;omega) (by omega) (by omega);rw [<-Nat.add_assoc] at this;exact this
     |jD hL=>
      rename_i O L;obtain ⟨k1,k2,k3⟩:=vk (DD _) hb;have k3:=k3 rfl;subst k3;obtain rfl:h=0:=by omega
      obtain rfl:l=0:=by omega
      refine ⟨_,run _ _ _ hb,?_⟩;simp only [EA];exact .jD hL
     |zu=>exact absurd rfl hs0
    ·split at e
     ·rename_i hz0;obtain ⟨hz1,hz2,hz3⟩:=hz0;subst hz1 hz2 hz3;cases e;obtain ⟨rfl,rfl,rfl⟩:=jE h1 h2 h3 hb;obtain ⟨k1,k2,k3⟩:=vk (DD _) hb;have k3:=k3 rfl;subst k3;obtain rfl:h=0:=by omega
      obtain rfl:l=0:=by omega
      cases hx with
      |flat h=>simp [flat] at h
      |vx hL hl hc hm' g1 g2=>
       rename_i cap' L;have hb':=yv hc hb;refine ⟨_,run _ _ _ hb',?_⟩;by_cases hm:cap'=0
       ·subst hm;simp only [EA,IM];exact .jD hL
       ·simp only [hm,EF,Option.map_some,Addr.add_lit,GI,Nat.add_zero,Nat.sub_zero];exact .vx hL hl hc hm' g1 g2
      |jD hL=>
       refine ⟨_,run _ _ _ hb,?_⟩;simp only [EA];exact .jD hL
      |zu=>
       refine ⟨_,run _ _ _ hb,?_⟩;simp only [EA];exact .zu
     ·cases e
   ·cases e
 ·exact absurd rfl (hstr _)
 ·cases e
theorem qd {n size:Nat} {x x' r:Value} {lo hi mx lo' hi' mx':Option Value} (hx:aI μ x x') (h1:sz μ lo lo') (h2:sz μ hi hi') (h3:sz μ mx mx')
  (e:sliceArr n size x lo hi mx=some r) :
  ∃ a l h m,x' = .pointer (some a)/\lo'=lo/\hi'=hi/\mx'=mx/\boundsA n n lo hi mx=some (l,h,m)/\aI μ r (.slice (some (if m=l then a else a.add (l*size))) (h-l) (m-l)):=by
 unfold sliceArr at e;split at e
 ·rename_i b off;split at e
  ·rename_i l h m hb;cases e;obtain ⟨e1,e2,e3⟩:=jE h1 h2 h3 hb;obtain ⟨L,hL,rfl⟩:=lL hx;refine ⟨_,l,h,m,rfl,e1,e2,e3,hb,?_⟩;by_cases hm:m=l
   ·simp only [hm,EA];exact .slice hL
   ·simp only [hm,EF,Addr.add_lit];have:=aI.slice (off:=off+l*size) (len:=h-l) (cap:=m-l) hL;rw [<-Nat.add_assoc] at this;exact this
  ·cases e
 ·cases e
theorem slice_sound {t:TypeId} {x x' r:Value} {lo hi mx lo' hi' mx':Option Value} (hx:aI μ x x') (h1:sz μ lo lo') (h2:sz μ hi hi') (h3:sz μ mx mx') (e:sliceA P t x lo hi mx=some r) :
  ∃ r',(Instr.sliceAt t x' lo' hi' mx').run P w = .ok r' w/\aI μ r r':=by
 unfold sliceA at e;split at e
 ·rename_i n el hu;simp only [DZ] at e;obtain ⟨z,hz,e⟩:=e;obtain ⟨a,l,h,m,rfl,rfl,rfl,rfl,hb,hv⟩:=qd hx h1 h2 h3 e;exact ⟨_,by simp [Instr.sliceAt,run_underlying hu,Instr.sureAddr,oL (P:=P) (w:=w) hb,cY w hz],hv⟩
 ·rename_i arr hu;split at e
  ·rename_i n el ha;simp only [DZ] at e;obtain ⟨z,hz,e⟩:=e;obtain ⟨a,l,h,m,rfl,rfl,rfl,rfl,hb,hv⟩:=qd hx h1 h2 h3 e;exact ⟨_,by simp [Instr.sliceAt,Instr.slice,run_underlying hu,run_underlying ha,asAddr,oL (P:=P) (w:=w) hb,cY w hz],hv⟩
  ·cases e
 ·rename_i el hu;split at e
  ·cases e
  ·rename_i hns;simp only [DZ] at e;obtain ⟨z,hz,e⟩:=e;obtain ⟨r',hrun,hv⟩:=AE (P:=P) (w:=w) hu hz hx h1 h2 h3 (fun s h=>hns s h) e;exact ⟨r',by simpa [Instr.sliceAt,run_underlying hu] using hrun,hv⟩
 ·rename_i hu;split at e
  ·rename_i sb;unfold sliceSl at e;simp only at e;split at e
   ·cases e
   ·split at e
    ·rename_i l h m hb;cases e;obtain ⟨rfl,rfl,rfl⟩:=jE h1 h2 h3 hb;rw [hx.bM rfl];exact ⟨_,by simp [Instr.sliceAt,Instr.slice,run_underlying hu,oL (P:=P) (w:=w) hb],.flat rfl⟩
    ·cases e
  ·cases e
 ·cases e
theorem addP_rel {v v' r:Value} {n:Nat} (hv:aI μ v v') (e:aP v n=some r) : ∃ a,v' = .pointer (some a)/\aI μ r (.pointer (some (a.add n))):=by
 unfold aP at e;split at e
 ·rename_i b off;cases e;obtain ⟨L,hL,rfl⟩:=lL hv;refine ⟨_,rfl,?_⟩;rw [Addr.add_lit];have:=aI.ptr (off:=off+n) hL;rw [<-Nat.add_assoc] at this;exact this
 ·cases e
theorem Aj {t:TypeId} {x x' r:Value} {i:Nat} (hx:aI μ x x') (e:fieldAtA P t x i=some r) : ∃ r',(Instr.fieldAt t x' i).run P w = .ok r' w/\aI μ r r':=by
 unfold fieldAtA at e;split at e
 ·rename_i fs hu;split at e
  ·rename_i f hf;split at e
   ·rename_i n hn;split at e
    ·cases e
    ·rename_i h0;obtain ⟨a,rfl,hv⟩:=addP_rel hx e;refine ⟨_,?_,hv⟩;simp [Instr.fieldAt,run_underlying hu,hf,Instr.sureAddr,fieldPlace,cY w hn,h0]
   ·cases e
  ·cases e
 ·cases e
theorem Ai {t:TypeId} {x x' ix ix' r:Value} (hx:aI μ x x') (hi:aI μ ix ix') (e:indexAtA P t x ix=some r) : ∃ r',(Instr.indexAt t x' ix').run P w = .ok r' w/\aI μ r r':=by
 unfold indexAtA at e;split at e
 ·rename_i n el hu;simp only [DZ] at e;obtain ⟨z,hz,e⟩:=e;unfold idxA at e;split at e
  ·rename_i k i;rw [hi.int];split at e
   ·rename_i hc;obtain ⟨a,rfl,hv⟩:=addP_rel hx e;refine ⟨_,?_,hv⟩;simp [Instr.indexAt,asIntOf,run_underlying hu,Instr.sureAddr,hc,cY w hz]
   ·cases e
  ·cases e
 ·rename_i el hu;simp only [DZ] at e;obtain ⟨z,hz,e⟩:=e;unfold idxS at e;split at e
  ·rename_i b off sp len cap k i;rw [hi.int];split at e
   ·rename_i hc;cases e;have main : ∀ (L:xj) (c':Nat),μ b=some L->x' = .slice (some ⟨L.blk,L.off+off,none⟩) len c' -> ∃ r',(Instr.indexAt t x' (.int k i)).run P w = .ok r' w/\aI μ (ptr b (off+i.toNat*z)) r':=by
     rintro L c' hL rfl;refine ⟨.pointer (some ⟨L.blk,L.off+off+i.toNat*z,none⟩),?_,?_⟩
     ·simp [Instr.indexAt,asIntOf,run_underlying hu,hc,cY w hz,Addr.add_lit]
     ·have:=aI.ptr (off:=off+i.toNat*z) hL;rw [<-Nat.add_assoc] at this;exact this
    cases hx with
    |flat h=>simp [flat] at h
    |slice h=>exact main _ _ h rfl
    |vx h=>exact main _ _ h rfl
    |jD h=>simp at hc;omega
    |zu=>simp at hc;omega
   ·cases e
  ·cases e
 ·cases e
theorem yz {t:TypeId} {cs cs':Array Value} {off:Nat} {r:Value} (hc:aR μ cs.toList cs'.toList) (e:j9 P t cs off=some r) : ∃ r',(part t cs' off).run P w = .ok r' w/\aI μ r r':=by
 unfold j9 at e;split at e
 ·rename_i n ha hs;cases e;refine ⟨.agg (cs'.extract off (off+n)),by simp [part,oi w ha,cY w hs],?_⟩;have:=(hc.drop off).take n;have e1:cs.extract off (off+n)=((cs.toList.drop off).take n).toArray:=by apply IL;simp
  have e2:cs'.extract off (off+n)=((cs'.toList.drop off).take n).toArray:=by apply IL;simp
  rw [e1,e2];exact .gO this
 ·rename_i n ha hs;obtain ⟨y,hy,hv⟩:=hc.get (i:=off) (by simpa using e);refine ⟨y,?_,hv⟩;have hy':cs'[off]? = some y:=by simpa using hy
  simp [part,oi w ha,hy']
 ·cases e
theorem field_sound {t:TypeId} {x x' r:Value} {i:Nat} (hx:aI μ x x') (e:fieldA P t x i=some r) : ∃ r',(Instr.field t x' i).run P w = .ok r' w/\aI μ r r':=by
 unfold fieldA at e;split at e
 ·rename_i fs cs hu;split at e
  ·rename_i f hf;obtain ⟨ys,rfl,hl⟩:=hx.xr;obtain ⟨r',hrun,hv⟩:=yz (P:=P) (w:=w) hl e;exact ⟨r',by simp [Instr.field,run_underlying hu,hf,asAgg,hrun],hv⟩
  ·cases e
 ·cases e
theorem index_sound {t:TypeId} {x x' ix ix' r:Value} (hx:aI μ x x') (hi:aI μ ix ix') (e:indexA P t x ix=some r) : ∃ r',(Instr.index t x' ix').run P w = .ok r' w/\aI μ r r':=by
 unfold indexA at e;split at e
 ·rename_i n el cs k i hu;split at e
  ·rename_i hc;simp only [DZ] at e;obtain ⟨z,hz,e⟩:=e;obtain ⟨ys,rfl,hl⟩:=hx.xr;rw [hi.int];obtain ⟨r',hrun,hv⟩:=yz (P:=P) (w:=w) hl e;exact ⟨r',by simp [Instr.index,asIntOf,run_underlying hu,hc,cY w hz,hrun],hv⟩
  ·cases e
 ·rename_i s k i hu;split at e
  ·rename_i hc;simp only [DQ] at e;obtain ⟨b,hb,rfl⟩:=e;rw [hi.int,hx.bM rfl];exact ⟨_,by simp [Instr.index,asIntOf,run_underlying hu,hc,hb],.flat rfl⟩
  ·cases e
 ·cases e
theorem Ao {x x' r:Value} {i:Nat} (hx:aI μ x x') (e:extractA x i=some r) : ∃ r',(Instr.extract x' i).run P w = .ok r' w/\aI μ r r':=by
 unfold extractA at e;split at e
 ·rename_i vs;obtain ⟨ys,rfl,hl⟩:=hx.Bp;obtain ⟨y,hy,hv⟩:=hl.get (i:=i) (by simpa using e);have hy':ys[i]? = some y:=by simpa using hy
  exact ⟨y,by simp [Instr.extract,hy'],hv⟩
 ·cases e
end ops
end
section
section ops
variable {P:Program} {μ:Mu} {h:ai} {w:World}
theorem sN {size n:Nat} {x x':Value} {cs:List Value} (s:cI μ h w) (hx:aI μ x x') (e:firstA size n x h=some cs) (hn : ∀ m,ik x=some m->n<=m) (P:Program) :
  ∃ cs',(∀ w',w'.heap=w.heap->(Builtin.firstCells size n x').run P w' = .ok cs'.toArray w')/\aR μ cs cs':=by
 cases x with
 |slice a len cap=>
  obtain ⟨cs',h1,h2,_⟩:=oQ s hx e (hn len rfl) P;exact ⟨cs',h1,h2⟩
 |string sb=>
  rw [hx.bM rfl];simp only [firstA,DA] at e;subst e;refine ⟨(sb.extract 0 n).data.toList.map fun b => .int .u8 b.toNat,?_,aR.jU (by rw [bI,DR];intro x hx;obtain ⟨b,_,rfl⟩:=E0.1 hx;rfl)⟩;intro w' _;simp only [Builtin.firstCells,Sem.run_pure]
  congr 1
  apply IL;simp
 |_=>simp [firstA] at e
theorem BC {x x':Value} {m:Nat} (hx:aI μ x x') (e:ik x=some m):(Builtin.lenOf x').run P w = .ok m w:=by
 cases x with
 |slice a len cap=>
  obtain ⟨a',c',rfl,_⟩:=hx.j0;simp only [ik,DA] at e;subst e;simp [Builtin.lenOf]
 |string sb=>
  rw [hx.bM rfl];simp only [ik,DA] at e;subst e;simp [Builtin.lenOf]
 |_=>simp [ik] at e
theorem mT {t tx ty el:TypeId} {i:TypeInfo} {d:TypeDesc} (hu:P.underlying t=some (.slice el)) (hx:P.underlying tx=some d) (hd:pN d=false)
  (hi:P.info? el=some i) {b9:Option Addr} {len cap m:Nat} {x:Value} (hm:(Builtin.lenOf x).run P w = .ok m w) (hc:len+m<=cap)
  {new:List Value} {w':World} (hf:(Builtin.firstCells i.size m x).run P w = .ok new.toArray w)
  (hs : ∀ a,b9=some a->(storeCells (a.add (len*i.size)) new).run P w = .ok () w') (hn:b9=none->w'=w) :
  (Builtin.append_ #[t,tx] ty #[.slice b9 len cap,x]).run P w = .ok (.slice b9 (len+m) cap) w':=by
 have hz':(match (generalizing:=false) d with | .int _=>true|_=>false)=false:=by cases d<;>first|rfl|(simp [pN] at hd;done)
 have e0:(#[t,tx]:Array TypeId)[0]? = some t:=rfl;have e1:(#[t,tx]:Array TypeId)[1]? = some tx:=rfl;have e2:(#[.slice b9 len cap,x]:Array Value)[0]? = some (.slice b9 len cap):=rfl;have e3:(#[.slice b9 len cap,x]:Array Value)[1]? = some x:=rfl;unfold Builtin.append_;simp only [e0, e1, e2, e3, Sem.run_bind, run_underlying hu, run_underlying hx, Result.andThen_ok, sizeOf, eP w hi, Sem.run_pure];split
 ·exact absurd hd (by simp [pN])
 ·simp only [DG, EF, Sem.run_bind, hm, Result.andThen_ok, DO, EA, false_or, hc, hf];cases b9 with
  |none=>simp [hn rfl]
  |some a=>simp [hs a rfl]
theorem zN {t tx ty el:TypeId} {i:TypeInfo} {d:TypeDesc} (hu:P.underlying t=some (.slice el)) (hx:P.underlying tx=some d) (hd:pN d=false)
  (hi:P.info? el=some i) {b9:Option Addr} {len cap m:Nat} {x:Value} (hm:(Builtin.lenOf x).run P w = .ok m w) (hc : ¬len+m<=cap)
  {z:Value} {olds news:List Value} (hz:kF P el=some z)
  (hfo:(Builtin.firstCells i.size len (.slice b9 len cap)).run P w.drew = .ok olds.toArray w.drew)
  (hfn:(Builtin.firstCells i.size m x).run P w.drew = .ok news.toArray w.drew)
  (h63:len+m<=4611686018427387904) (hfit:Builtin.nextslicecap (len+m) cap*i.bytes<=281474976710656) :
  (Builtin.append_ #[t,tx] ty #[.slice b9 len cap,x]).run P w =
   .ok (.slice (some ⟨w.heap.size,0,none⟩) (len+m) (grownCap w (len+m) cap el))
    { w.drew with heap:=w.heap.push (.cells ((olds++news++(Builtin.zeroCells z.cells (grownCap w (len+m) cap el-(len+m))).toList).toArray) el (0,0)) }:=by
 have hmax:IntKind.i64.max=9223372036854775807:=by decide
 have h1 : ¬(((len+m:Nat):Int)>IntKind.i64.max/\i.bytes=0):=by rw [hmax];omega
 have h2 : ¬(Builtin.nextslicecap (len+m) cap*i.bytes>2^48):=by
  have:(2:Nat)^48=281474976710656:=by decide
  omega
 have hz':(match (generalizing:=false) d with | .int _=>true|_=>false)=false:=by cases d<;>first|rfl|(simp [pN] at hd;done)
 have e0:(#[t,tx]:Array TypeId)[0]? = some t:=rfl;have e1:(#[t,tx]:Array TypeId)[1]? = some tx:=rfl;have e2:(#[.slice b9 len cap,x]:Array Value)[0]? = some (.slice b9 len cap):=rfl;have e3:(#[.slice b9 len cap,x]:Array Value)[1]? = some x:=rfl;unfold Builtin.append_;simp only [e0, e1, e2, e3, Sem.run_bind, run_underlying hu, run_underlying hx, Result.andThen_ok, sizeOf, eP w hi, Sem.run_pure];split
 ·exact absurd hd (by simp [pN])
 ·simp only [DG, EF, Sem.run_bind, hm, Result.andThen_ok, DO, EA, false_or, hc, eP w hi];rw [DM h1];simp only [Sem.run_bind,eP w hi,Result.andThen_ok];rw [DM h2];simp only [Sem.run_bind,Sem.run_pure,Result.andThen_ok,run_choose,Question.forced,DG,EF,run_askRoom];have hdr:({ w with drawn:=w.drawn+1 }:World)=w.drew:=rfl;rw [hdr];simp only [eP w.drew hi, Result.andThen_ok];rw [hfo];simp only [Result.andThen_ok];rw [hfn];simp only [Result.andThen_ok,fT w.drew hz,Go.newRow,Sem.run_bind,run_newObj,Sem.run_pure,grownCap];have:olds.toArray++news.toArray++Builtin.zeroCells z.cells ((Question.appendCap (len+m) cap el).cut (w.tape w.drawn (Question.appendCap (len+m) cap el))-(len+m)) =
    (olds++news++(Builtin.zeroCells z.cells ((Question.appendCap (len+m) cap el).cut (w.tape w.drawn (Question.appendCap (len+m) cap el))-(len+m))).toList).toArray:=by
   apply IL;simp
  rw [this];rfl
theorem grow_sound {z:Value} {size c:Nat} {el:TypeId} {olds news olds' news':List Value} {n:Nat} (s:cI μ h w) (hf:fK μ h (h.alloc (olds++news))) (ho:aR μ olds olds') (hn:aR μ news news')
  (hzs:z.cells.size=size) (_:0<size) (hlen:olds.length+news.length=n*size) (hc:n<=c) (hcm:c<=maxLen) :
  ∃ μ' w',w'={ w.drew with heap:=w.heap.push (.cells ((olds'++news'++(Builtin.zeroCells z.cells (c-n)).toList).toArray) el (0,0)) } /\
    cI μ' (h.alloc (olds++news)) w'/\cH μ h w μ' (h.alloc (olds++news)) w'/\aI μ' (.slice (some ⟨h.next,0,some size⟩) n n) (.slice (some ⟨w.heap.size,0,none⟩) n c):=by
 have hl:=ho.1;have hl':=hn.1;have hzc:(Builtin.zeroCells z.cells (c-n)).size=(c-n)*size:=by rw [size_zeroCells,hzs]
 have hsz:((olds'++news'++(Builtin.zeroCells z.cells (c-n)).toList).toArray).size=c*size:=by
  simp only [FT,DE,Array.length_toList,hzc,<-hl,<-hl',hlen,<-Nat.add_mul]
  congr 1;omega
 have hnc:n*size<=c*size:=GC _ hc;obtain ⟨hS,hSt⟩:=s.alloc (k:=olds++news) hf (arr:=(olds'++news'++(Builtin.zeroCells z.cells (c-n)).toList).toArray) (T:=el) (fr:=(0,0)) (.inl rfl)
  (by rw [hsz,DE,hlen];exact hnc)
  (by
   have:(olds++news).length=(olds'++news').length:=by simp [hl,hl']
   rw [this,JL];exact ho.append hn)
  (w1:={ w.drew with heap:=w.heap.push (.cells ((olds'++news'++(Builtin.zeroCells z.cells (c-n)).toList).toArray) el (0,0)) }) rfl rfl rfl rfl
 refine ⟨_,_,rfl,hS,hSt,?_⟩;have:=aI.vx (b:=h.next) (off:=0) (len:=n) (cap:=n) (cap':=c) (s:=size) (Mu.cJ μ h.next ⟨w.heap.size,0,((olds'++news'++(Builtin.zeroCells z.cells (c-n)).toList).toArray).size,(olds++news).length⟩) (DD _) hc hcm
  (by simp only [DE,hlen,DH]) (by simp only [hsz];omega)
 simpa using this
theorem cI.regrow {b off n1:Nat} {k:ju} {L:xj} {news news':List Value} (s:cI μ h w) (hb:h.n0<=b) (hg:h.get b=some k) (hL:μ b=some L) (h1:off+n1<=k.length)
  (hx:aR μ news news') (hone:aM news=true) (hext:L.off+off+n1+news.length<=L.ext) (hf:fK μ h ((h.kill b).alloc ((k.drop off).take n1++news))) :
  ∃ μ' w',(Go.storeCells ⟨L.blk,L.off+off+n1,none⟩ news').run P w = .ok () w'/\cI μ' ((h.kill b).alloc ((k.drop off).take n1++news)) w'/\cH μ h w μ' ((h.kill b).alloc ((k.drop off).take n1++news)) w' /\
    μ' h.next=some ⟨L.blk,L.off+off,L.ext,n1+news.length⟩:=by
 obtain ⟨L',arr,T,fr,e1,e2,e4,e5,e6,e7,e8,e9⟩:=s.new b k hb hg;rw [hL] at e1;cases e1;have hal:arr.toList.length=arr.size:=Array.length_toList;have hlt:=h.aO hg;have hnl:news'.length=news.length:=hx.1.symm;have hnone:μ h.next=none:=hf _ (DD _) (by simp);have hm:=Mu.jZ (L:=⟨L.blk,L.off+off,L.ext,n1+news.length⟩) hnone;have hget : ∀ c kc,((h.kill b).alloc ((k.drop off).take n1++news)).get c=some kc->(c=h.next/\kc=(k.drop off).take n1++news)\/(c≠h.next/\c≠b/\h.get c=some kc):=by
  intro c kc hc;rw [ai.aN,ai.fU] at hc;by_cases ec:c=h.next
  ·rw [DL ec] at hc;cases hc;exact .inl ⟨ec,rfl⟩
  ·rw [DM ec] at hc;unfold ai.kill at hc;rw [h.xF hb hlt] at hc;by_cases eb:c=b
   ·rw [DL eb] at hc;cases hc
   ·rw [DM eb] at hc;exact .inr ⟨ec,eb,hc⟩
 have hgetB : ∀ c kc,((h.kill b).alloc ((k.drop off).take n1++news)).getB c=some kc->(c=h.next/\kc = .cells ((k.drop off).take n1++news))\/(c≠h.next/\c≠b/\h.getB c=some kc):=by
  intro c kc hc;rw [ai.cN,ai.fU] at hc;by_cases ec:c=h.next
  ·rw [DL ec] at hc;cases hc;exact .inl ⟨ec,rfl⟩
  ·rw [DM ec] at hc;unfold ai.kill at hc;rw [h.cT hb hlt] at hc;by_cases eb:c=b
   ·rw [DL eb] at hc;cases hc
   ·rw [DM eb] at hc;exact .inr ⟨ec,eb,hc⟩
 have hB:(w.setRow L.blk (splice arr.toList (L.off+off+n1) news').toArray).heap[L.blk]? = some (.cells (splice arr.toList (L.off+off+n1) news').toArray T fr):=setRow_heap w L.blk arr _ T fr e4;have hsz:((splice arr.toList (L.off+off+n1) news').toArray).size=arr.size:=by rw [FT,jT (by omega),hal]
 refine ⟨μ.put h.next ⟨L.blk,L.off+off,L.ext,n1+news.length⟩,w.setRow L.blk (splice arr.toList (L.off+off+n1) news').toArray,?_,⟨?_,?_,?_,?_,?_,fun b hb=>by obtain ⟨L,h1,h2⟩:=s.low b hb;exact ⟨L,hm _ _ h1,h2⟩⟩,⟨?_,rfl,rfl,by simp,rfl,rfl,rfl,by simp [World.setRow],?_,?_,fun B r hB=>⟨r,by rw [setRow_other _ _ _ _ (by rintro rfl;rw [e4] at hB;cases hB)];exact hB⟩,DD _⟩,Mu.cJ _ _ _⟩
 ·have:=fF P L.blk (L.off+off+n1) T fr news' 0 arr w e4 e7 (by omega) (hx.aM hone);simpa using this
 ·intro c cs hc hcs;obtain ⟨L2,a2,T2,f2,g1,g2,g3,g4,g5⟩:=s.old c cs (by simpa using hc) hcs;refine ⟨L2,a2,T2,f2,hm _ _ g1,g2,g3,?_,g5.mono hm⟩;rw [setRow_other _ _ _ _ (by simp at hc;omega)];exact g4
 ·intro c kc hc hgc;rcases hget c kc hgc with ⟨rfl,rfl⟩|⟨n1',n2',hgc'⟩
  ·refine ⟨_,_,T,fr,Mu.cJ _ _ _,?_,hB,hsz.trans e5,?_,by rw [hsz];exact e7,by simpa using e8,?_⟩
   ·simp only [DE,DV,EB];omega
   ·simp only;omega
   ·simp only;have hr:=(e9.drop off).take n1;rw [IH,FV,H2,show min n1 (L.len-off)=n1 from by omega] at hr;have:((splice arr.toList (L.off+off+n1) news').drop (L.off+off)).take (n1+news.length)=(arr.toList.drop (L.off+off)).take n1++news':=by
     unfold splice;have e1:(arr.toList.take (L.off+off+n1)).drop (L.off+off)=(arr.toList.drop (L.off+off)).take n1:=by rw [IH];congr 1;omega
     rw [ER,GS (by simp;omega),e1,<-List.append_assoc];exact HC (by simp;omega)
    rw [this];exact (hr.append hx).mono hm
  ·obtain ⟨L2,a2,T2,f2,g1,g2,g4,g5,g6,g7,g8,g9⟩:=s.new c kc hc hgc';refine ⟨L2,a2,T2,f2,hm _ _ g1,g2,?_,g5,g6,g7,g8,g9.mono hm⟩;rw [setRow_other _ _ _ _ (s.inj c b _ _ L2 L hc hb n2' (h.bg hgc') (h.bg hg) g1 hL)];exact g4
 ·intro c o hc hgc;rcases hgetB c _ hgc with ⟨rfl,e⟩|⟨n1',n2',hgc'⟩
  ·cases e
  ·obtain ⟨L2,ob,g1,g2,g3,g4⟩:=s.obj c o hc hgc';exact ⟨L2,ob,hm _ _ g1,by rw [setRow_other _ _ _ _ (s.inj c b _ _ L2 L hc hb n2' hgc' (h.bg hg) g1 hL)];exact g2,g3.mono hm,g4⟩
 ·intro c c' kc kc' Lc Lc' hc hc' hne hgc hgc' h2 h3;have hg:=h.bg hg;rcases hgetB c kc hgc with ⟨rfl,rfl⟩|⟨n1',n2',g1⟩
  ·rw [Mu.cJ] at h2;cases h2;rcases hgetB c' kc' hgc' with ⟨rfl,rfl⟩|⟨m1,m2,g2⟩
   ·exact absurd rfl hne
   ·rw [Mu.c9 _ _ m1] at h3;exact s.inj b c' _ kc' L Lc' hb hc' (JX m2) hg g2 hL h3
  ·rw [Mu.c9 _ _ n1'] at h2;rcases hgetB c' kc' hgc' with ⟨rfl,rfl⟩|⟨m1,m2,g2⟩
   ·rw [Mu.cJ] at h3;cases h3;exact s.inj c b kc _ Lc L hc hb n2' g1 hg h2 hL
   ·rw [Mu.c9 _ _ m1] at h3;exact s.inj c c' kc kc' Lc Lc' hc hc' hne g1 g2 h2 h3
 ·simpa [World.setRow] using s.size
 ·intro c hc;rw [Mu.c9 _ _ (by simp at hc;omega)]
 ·intro B hB' hO;exact setRow_other _ _ _ _ (fun e=>hO ⟨b,_,L,hb,h.bg hg,hL,e.symm⟩)
 ·rintro B ⟨c,kc,Lc,hc,hgc,h2,rfl⟩;rcases hgetB c kc hgc with ⟨rfl,rfl⟩|⟨n1',n2',g1⟩
  ·rw [Mu.cJ] at h2;cases h2;exact .inl ⟨b,_,L,hb,h.bg hg,hL,rfl⟩
  ·rw [Mu.c9 _ _ n1'] at h2;exact .inl ⟨c,kc,Lc,hc,g1,h2,rfl⟩
theorem Cy {t tx ty el:TypeId} {d:TypeDesc} {size jt:Nat} {z s s' x x' r:Value} {h':ai} (hu:P.underlying t=some (.slice el)) (htx:P.underlying tx=some d) (hd:pN d=false)
  (hsz:cS P el=some size) (hby:yp P el=some jt) (hz:kF P el=some z) (hzs:z.cells.size=size) (hpos:0<size)
  (S:cI μ h w) (hf:fK μ h h') (hs:aI μ s s') (hx:aI μ x x') (e:appendA size jt s x h=some (r,h')) :
  ∃ μ' r' w',(Builtin.append_ #[t,tx] ty #[s',x']).run P w = .ok r' w'/\cI μ' h' w'/\cH μ h w μ' h' w'/\aI μ' r r':=by
 obtain ⟨i,hi,hin⟩:=mU hsz;have hib:i.bytes=jt:=by simp only [yp,hi,Option.map_some,DA] at hby;exact hby
 subst hin hib;unfold appendA at e;split at e
 ·rename_i b9 len cap m hm;have hlen:=BC (P:=P) (w:=w) hx hm;split at e
  ·cases e
  ·rename_i news hnews;split at e
   ·cases e
   ·rename_i hcond;simp only [FY,FW,DS,not_or,Bool.not_eq_false,FX,JK,ne_eq] at hcond;obtain ⟨⟨⟨hone,hbytes⟩,h62⟩,hnl⟩:=hcond;have hle : ∀ m',ik x=some m'->m<=m':=by intro m' h;rw [hm] at h;cases h;exact DD _
    obtain ⟨news',hrn,hrel⟩:=sN S hx hnews hle P;have place : ∀ {b off:Nat} {h1:ai} {L:xj} {c':Nat},μ b=some L->stL b (off+len*i.size) news h=some h1->s' = .slice (some ⟨L.blk,L.off+off,none⟩) len c'->len+m<=c' ->
      ∃ w',(Builtin.append_ #[t,tx] ty #[s',x']).run P w = .ok (.slice (some ⟨L.blk,L.off+off,none⟩) (len+m) c') w'/\cI μ h1 w'/\cH μ h w μ h1 w':=by
     intro b off h1 L c' hL hst hs' hc;subst hs';obtain ⟨L',w',hL',hrun,hS,hSt⟩:=qZ (P:=P) S hrel hst;rw [hL] at hL';cases hL';refine ⟨w',mT hu htx hd hi hlen hc (hrn w rfl) ?_ (by intro h;cases h),hS,hSt⟩;intro a ha;cases ha;rw [Addr.add_lit,GL];exact hrun
    have grow : ∀ {olds olds':List Value} {h1:ai} {base':Option Addr} {c':Nat},cI μ h1 w->fK μ h1 (h1.alloc (olds++news))->olds.length=len*i.size->aR μ olds olds' ->
      (∀ w',w'.heap=w.heap->(Builtin.firstCells i.size len (.slice base' len c')).run P w' = .ok olds'.toArray w')->s' = .slice base' len c' -> ¬len+m<=c' ->
      ∃ μ' r' w',(Builtin.append_ #[t,tx] ty #[s',x']).run P w = .ok r' w'/\cI μ' (h1.alloc (olds++news)) w'/\cH μ h1 w μ' (h1.alloc (olds++news)) w' /\
        aI μ' (.slice (some ⟨h1.next,0,some i.size⟩) (len+m) (len+m)) r':=by
     intro olds olds' h1 base' c' S1 hf1 hol horel hro hs' hc;subst hs';have hfit:Builtin.nextslicecap (len+m) c'*i.bytes<=281474976710656:=growslice_fits (by omega) hbytes;have hrun:=zN (ty:=ty) hu htx hd hi hlen hc hz (hro w.drew rfl) (hrn w.drew rfl) h62 hfit;obtain ⟨μ',w',hw',hS,hSt,hv⟩:=grow_sound (z:=z) (size:=i.size) (c:=grownCap w (len+m) c' el) (el:=el) (n:=len+m) S1 hf1 horel hrel hzs hpos
      (by rw [hol,hnl,HM]) (grownCap_ge w (len+m) c' el) (grownCap_le_maxLen w (len+m) c' el (by unfold maxLen;omega))
     exact ⟨μ',_,w',by rw [hrun,hw'],hS,hSt,hv⟩
    split at e
    ·rename_i hroom;split at e
     ·rename_i hm0;subst hm0;cases e;have hn0:news' = []:=by have:=hrel.1;simp only [hnl,GI] at this;exact FG this.symm
      subst hn0;have fin : ∀ (b':Option Addr) (c':Nat),s' = .slice b' len c'->cap<=c' -> ∃ μ' r' w',(Builtin.append_ #[t,tx] ty #[s',x']).run P w = .ok r' w'/\cI μ' h w'/\cH μ h w μ' h w'/\aI μ' (.slice b9 len cap) r':=by rintro b' c' rfl hc;refine ⟨μ,.slice b' (len+0) c',w,mT hu htx hd hi hlen (by omega) (hrn w rfl) (fun a _=>rfl) (fun _=>rfl),S,.cj,hs⟩
      cases hs with
      |flat h=>exact fin _ _ rfl (DD _)
      |slice h=>exact fin _ _ rfl (DD _)
      |vx h _ hc=>exact fin _ _ rfl hc
      |jD h=>exact fin _ _ rfl (DD _)
      |zu=>exact fin _ _ rfl (DD _)
     ·rename_i hm0;split at e
      ·rename_i b off sp;simp only [DQ,DN] at e;obtain ⟨h1,hst,rfl,rfl⟩:=e;cases hs with
       |flat h=>simp [flat] at h
       |slice hL=>
        obtain ⟨w',hrun,hS,hSt⟩:=place hL hst rfl hroom;exact ⟨μ,_,w',hrun,hS,hSt,.slice hL⟩
       |vx hL hl hc hmx g1 g2=>
        obtain ⟨w',hrun,hS,hSt⟩:=place hL hst rfl (by omega);exact ⟨μ,_,w',hrun,hS,hSt,.vx hL hroom hc hmx g1 g2⟩
       |jD hL=>omega
       |zu=>omega
      ·cases e
    ·rename_i hroom;split at e
     ·split at e
      ·rename_i h0;subst h0;simp only [DA,DN] at e;obtain ⟨rfl,rfl⟩:=e;have hs':=hs.bM rfl;have:=grow (olds := []) (olds' := []) (h1:=h) S (by simpa using hf) (by simp) (aR.nil μ) (by intro w' _;simp [Builtin.firstCells]) hs' hroom;simpa using this
      ·cases e
     ·rename_i b off sp;split at e
      ·cases e
      ·rename_i olds holds;split at e
       ·cases e
       ·rename_i hol;have hol':olds.length=len*i.size:=JK.1 hol;obtain ⟨olds',hro,horel⟩:=sN S hs holds (by intro m' h;cases h;exact DD _) P;split at e
        ·simp only [DA,DN] at e;obtain ⟨rfl,rfl⟩:=e;cases hs with
         |flat h=>simp [flat] at h
         |slice hL=>exact grow S hf hol' horel hro rfl hroom
        ·rename_i zz;split at e
         ·rename_i hc;simp only [DK,DS] at hc;obtain ⟨⟨rfl,hb⟩,hlive⟩:=hc;obtain ⟨k,hk⟩:=FZ.1 hlive;simp only [DA,DN] at e;obtain ⟨rfl,rfl⟩:=e;obtain ⟨S1,St1⟩:=S.kill hb (h.aO hk);have hf1:fK μ (h.kill b) ((h.kill b).alloc (olds++news)):=hf;generalize hq:i.size=q at hs;cases hs with
          |flat h=>simp [flat] at h
          |zu=>omega
          |vx hL hl hc hmx g1 g2=>
           rename_i cap' L;subst hq;by_cases hin:len+m<=cap'
           ·have hkl:L.len=k.length:=by obtain ⟨L',arr,T,fr,e1,e2,_⟩:=S.new b k hb hk;rw [hL] at e1;cases e1;exact e2
            have hls:len*i.size<=cap*i.size:=GC _ hl;have hms:(len+m)*i.size<=cap'*i.size:=GC _ hin;have hadd:(len+m)*i.size=len*i.size+m*i.size:=HM _ _ _;have holds':olds=(k.drop off).take (len*i.size):=by
             unfold firstA at holds;simp only [hk] at holds;split at holds
             ·rename_i h0;cases holds;rw [h0];rfl
             ·split at holds
              ·cases holds;rfl
              ·cases holds
            subst holds';obtain ⟨μ',w',hrun,hS,hSt,hμ⟩:=S.regrow (P:=P) (off:=off) (n1:=len*i.size) hb hk hL (by omega) hrel hone (by omega) hf;refine ⟨μ',.slice (some ⟨L.blk,L.off+off,none⟩) (len+m) cap',w',mT hu htx hd hi hlen hin (hrn w rfl) ?_ (by intro h;cases h),hS,hSt,?_⟩
            ·intro a ha;cases ha;rw [Addr.add_lit];exact hrun
            ·have:=aI.vx (μ:=μ') (b:=h.next) (off:=0) (len:=len+m) (cap:=len+m) (cap':=cap') (s:=i.size) hμ (DD _) hin hmx (by simp only;omega) (by simp only;omega);simpa using this
           ·obtain ⟨μ',r',w',hrun,hS,hSt,hv⟩:=grow S1 hf1 hol' horel hro rfl hin;exact ⟨μ',r',w',hrun,hS,St1.trans hSt,hv⟩
          |jD hL=>
           subst hq;obtain ⟨μ',r',w',hrun,hS,hSt,hv⟩:=grow S1 hf1 hol' horel hro rfl (by omega);exact ⟨μ',r',w',hrun,hS,St1.trans hSt,hv⟩
         ·cases e
 ·cases e
theorem copy_sound {dT sT ty el:TypeId} {size:Nat} {d d' s s' r:Value} {h':ai} (hu:P.underlying dT=some (.slice el)) (hsz:cS P el=some size)
  (S:cI μ h w) (hd:aI μ d d') (hs:aI μ s s') (e:tC size d s h=some (r,h')) :
  ∃ w',(Builtin.copy_ #[dT,sT] ty #[d',s']).run P w = .ok r w'/\cI μ h' w'/\cH μ h w μ h' w' /\ ∃ n:Nat,r = .int .i64 n:=by
 unfold tC at e;split at e
 ·rename_i b9 dLen dCap m hm;have hlen:=BC (P:=P) (w:=w) hs hm;simp only at e;split at e
  ·cases e
  ·rename_i news hnews;obtain ⟨news',hrn,hrel⟩:=sN S hs hnews (by intro m' h;rw [hm] at h;cases h;exact Nat.min_le_left _ _) P;obtain ⟨b',c',rfl,hb'⟩:=hd.j0;have head : ∀ w',(∀ a,b'=some a->(storeCells a news').run P w = .ok () w')->(b'=none->w'=w) ->
     (Builtin.copy_ #[dT,sT] ty #[.slice b' dLen c',s']).run P w = .ok (.int .i64 (min m dLen:Nat)) w':=by
    intro w' hs hn;have e0:(#[dT,sT]:Array TypeId)[0]? = some dT:=rfl;have e2:(#[.slice b' dLen c',s']:Array Value)[0]? = some (.slice b' dLen c'):=rfl;have e3:(#[.slice b' dLen c',s']:Array Value)[1]? = some s':=rfl;unfold Builtin.copy_;simp only [e0,e2,e3,Sem.run_bind,run_underlying hu,Result.andThen_ok,hlen,cY w hsz,Nat.min_def];have hrn0:=hrn w rfl;rw [Nat.min_def] at hrn0;rw [hrn0];cases b' with
    |none=>simp [hn rfl,goInt]
    |some a=>simp [hs a rfl,goInt]
   split at e
   ·rename_i h0;cases e;have hn0:news' = []:=by
     have h1:=hrel.1;have:news = []:=by
      unfold firstA at hnews;rw [h0] at hnews;split at hnews
      ·simpa using hnews.symm
      ·simpa using hnews.symm
      ·simp only [DA] at hnews;rw [<-hnews];simp
      ·cases hnews
     subst this;exact FG h1.symm
    subst hn0;exact ⟨w,head w (fun _ _=>rfl) (fun _=>rfl),S,.cj,_,rfl⟩
   ·rename_i h0;split at e
    ·cases e
    ·rename_i b off sp;simp only [DQ,DN] at e;obtain ⟨h1,hst,rfl,rfl⟩:=e;obtain ⟨L,w',hL,hrun,hS,hSt⟩:=qZ (P:=P) S hrel hst;have hb2:b'=some ⟨L.blk,L.off+off,none⟩:=by
      cases hd with
      |flat h=>simp [flat] at h
      |slice h=>rw [h] at hL;cases hL;rfl
      |vx h=>rw [h] at hL;cases hL;rfl
      |jD h=>simp at h0
      |zu=>simp at h0
     refine ⟨w',head w' ?_ (by intro h;rw [hb2] at h;cases h),hS,hSt,_,rfl⟩;intro a ha;rw [hb2] at ha;cases ha;exact hrun
 ·cases e
theorem clear_sound {t ty el:TypeId} {size:Nat} {d d' r:Value} {h':ai} (hu:P.underlying t=some (.slice el))
  (S:cI μ h w) (hd:aI μ d d') (e:clearA P el size d h=some (r,h')) :
  ∃ w',(Builtin.clear_ #[t] ty #[d']).run P w = .ok r w'/\cI μ h' w'/\cH μ h w μ h' w'/\r=undef:=by
 have e0:(#[t]:Array TypeId)[0]? = some t:=rfl;have e2 : ∀ v:Value,(#[v]:Array Value)[0]? = some v:=fun _=>rfl;unfold clearA at e;split at e
 ·cases e;rw [hd.bM rfl];refine ⟨w,?_,S,.cj,rfl⟩;simp [Builtin.clear_,run_underlying hu,undef]
 ·rename_i b off sp n c;split at e
  ·rename_i h0;subst h0;cases e;obtain ⟨b',c',rfl,hb'⟩:=hd.j0;refine ⟨w,?_,S,.cj,rfl⟩;cases b'<;>simp [Builtin.clear_,run_underlying hu,undef]
  ·rename_i h0;split at e
   ·rename_i z hz;split at e
    ·rename_i hc;simp only [DK,DS] at hc;obtain ⟨⟨hfl,hzn⟩,hpos⟩:=hc;simp only [DQ,DN] at e;obtain ⟨h1,hst,rfl,rfl⟩:=e;have hzz:(Builtin.zeroCells z.cells n).toList=dj z.cells.toList n:=by rw [<-mF z.cells (by omega)];simp [Builtin.zeroCells]
     obtain ⟨L,w',hL,hrun,hS,hSt⟩:=qZ (P:=P) S (aR.jU (μ:=μ) (l:=dj z.cells.toList n) (by simp only [bI,DR,dj,HO] at hfl |-;rintro x ⟨_,_,hx⟩;exact hfl x hx)) hst
     have hb2 : ∃ c',d' = .slice (some ⟨L.blk,L.off+off,none⟩) n c':=by
      cases hd with
      |flat h=>simp [flat] at h
      |slice h=>rw [h] at hL;cases hL;exact ⟨_,rfl⟩
      |vx h=>rw [h] at hL;cases hL;exact ⟨_,rfl⟩
      |jD h=>exact absurd rfl h0
      |zu=>exact absurd rfl h0
     obtain ⟨c',rfl⟩:=hb2;refine ⟨w',?_,hS,hSt,rfl⟩;obtain ⟨n,rfl⟩ : ∃ n',n=n'+1:=⟨n-1,by omega⟩
     unfold Builtin.clear_;simp only [e0,e2,Sem.run_bind,run_underlying hu,Result.andThen_ok,fT w hz,hzz,hrun,Sem.run_pure];rfl
    ·cases e
   ·cases e
 ·cases e
theorem len_sound {t ty:TypeId} {x x' r:Value} (hx:aI μ x x') (e:lenOfT P t x=some r):(Builtin.len_ #[t] ty #[x']).run P w = .ok r w/\flat r=true:=by
 unfold lenOfT at e;split at e
 ·rename_i hu;cases e;rw [hx.bM rfl];exact ⟨by simp [Builtin.len_,run_underlying hu,goInt],rfl⟩
 ·rename_i n el _ _ hu;cases e;exact ⟨by simp [Builtin.len_,run_underlying hu,goInt],rfl⟩
 ·rename_i arr hu;split at e
  ·rename_i ha;cases e;exact ⟨by simp [Builtin.len_,run_underlying hu,run_underlying ha,goInt],rfl⟩
  ·cases e
 ·rename_i hu;cases e;obtain ⟨b',c',rfl,_⟩:=hx.j0;exact ⟨by simp [Builtin.len_,run_underlying hu,goInt],rfl⟩
 ·cases e
theorem max_fold : ∀ (l:List Value) (v r:Value),minmax true v l=some r->(l.foldlM Builtin.max2 v).run P w = .ok r w/\(bI l=true->flat v=true->flat r=true)
 | [],v,r,e=>by cases e;exact ⟨rfl,fun _ h=>h⟩
 |x::l,v,r,e=>by
  unfold minmax at e;split at e
  ·rename_i h;cases h
  ·rename_i k a k' b cU heq;cases heq;split at e
   ·rename_i hk;subst hk;obtain ⟨h1,h2⟩:=max_fold l _ r e;refine ⟨?_,fun hl _=>h2 ?_ rfl⟩
    ·simp only [List.foldlM_cons,Sem.run_bind,Builtin.max2,Sem.run_pure,Result.andThen_ok];simpa using h1
    ·simp only [bI,List.all_cons,DK] at hl |-;exact hl.2
   ·cases e
  ·cases e
theorem min_fold : ∀ (l:List Value) (v r:Value),minmax false v l=some r->(l.foldlM Builtin.min2 v).run P w = .ok r w/\(bI l=true->flat v=true->flat r=true)
 | [],v,r,e=>by cases e;exact ⟨rfl,fun _ h=>h⟩
 |x::l,v,r,e=>by
  unfold minmax at e;split at e
  ·rename_i h;cases h
  ·rename_i k a k' b cU heq;cases heq;split at e
   ·rename_i hk;subst hk;obtain ⟨h1,h2⟩:=min_fold l _ r e;refine ⟨?_,fun hl _=>h2 ?_ rfl⟩
    ·simp only [List.foldlM_cons,Sem.run_bind,Builtin.min2,Sem.run_pure,Result.andThen_ok];simpa using h1
    ·simp only [bI,List.all_cons,DK] at hl |-;exact hl.2
   ·cases e
  ·cases e
theorem qA : ∀ {mx:Bool} {l:List Value} {v r:Value},minmax mx v l=some r->l ≠ []->bI (v::l)=true/\flat r=true
 |mx,[],v,r,e,h=>absurd rfl h
 |mx,x::l,v,r,e,_=>by
  unfold minmax at e;split at e
  ·rename_i h;cases h
  ·rename_i k a k' b cU heq;cases heq;split at e
   ·cases l with
    |nil=>cases e;exact ⟨rfl,rfl⟩
    |cons y l=>
     obtain ⟨h1,h2⟩:=qA e (by simp);simp only [bI,List.all_cons,DK] at h1 |-;exact ⟨⟨rfl,rfl,h1.2⟩,h2⟩
   ·cases e
  ·cases e
end ops
end
section
def bdF (n:Nat):Fn->Bool
 | .yield l=>decide (l<n)
 |_=>true
theorem bdF_mono {n m:Nat} (h:n<=m) {f:Fn} (e:bdF n f=true):bdF m f=true:=by
 cases f with
 |yield l=>simp only [bdF,DS] at e |-;omega
 |_=>rfl
mutual
def cz (n:Nat):Value->Bool
 | .pointer (some a)=>a.block<n
 | .slice (some a) _ _=>a.block<n
 | .map (some b)=>b<n
 | .agg ⟨l⟩=>cW n l
 | .tuple ⟨l⟩=>cW n l
 | .func f ⟨l⟩ ⟨r⟩=>bdF n f&&(cW n l&&cW n r)
 | .iface _ v=>cz n v
 |_=>true
def cW (n:Nat):List Value->Bool
 | []=>true
 |v::l=>cz n v&&cW n l
end
theorem dY {n:Nat} : ∀ {l:List Value},cW n l=true ↔ ∀ x∈l,cz n x=true
 | []=>by simp [cW]
 |v::l=>by simp [cW,dY (l:=l)]
mutual
theorem uj {n m:Nat} (h:n<=m) : ∀ {v:Value},cz n v=true->cz m v=true
 | .pointer none,_=>rfl
 | .pointer (some a),e=>by simp only [cz,DS] at e |-;omega
 | .slice none _ _,_=>rfl
 | .slice (some a) _ _,e=>by simp only [cz,DS] at e |-;omega
 | .map none,_=>rfl
 | .map (some _),e=>by simp only [cz,DS] at e |-;omega
 | .chan none,_=>rfl
 | .chan (some _),e=>rfl
 | .agg ⟨l⟩,e=>by simp only [cz] at e |-;exact bZ h e
 | .tuple ⟨l⟩,e=>by simp only [cz] at e |-;exact bZ h e
 | .func _ ⟨l⟩ ⟨r⟩,e=>by simp only [cz,DK] at e |-;exact ⟨bdF_mono h e.1,bZ h e.2.1,bZ h e.2.2⟩
 | .iface _ v,e=>by simp only [cz] at e |-;exact uj h e
 | .bool _,_=>rfl
 | .int _ _,_=>rfl
 | .float _ _,_=>rfl
 | .complex _ _ _,_=>rfl
 | .string _,_=>rfl
 | .nilFunc,_=>rfl
 | .nilIface,_=>rfl
theorem bZ {n m:Nat} (h:n<=m) : ∀ {l:List Value},cW n l=true->cW m l=true
 | [],_=>rfl
 |v::l,e=>by simp only [cW,DK] at e |-;exact ⟨uj h e.1,bZ h e.2⟩
end
theorem kl {n:Nat} {v:Value} (h:flat v=true):cz n v=true:=by
 cases v with
 |pointer a=>cases a<;>first|rfl|(simp [flat] at h)
 |slice a=>cases a<;>first|rfl|(simp [flat] at h)
 |map a=>cases a<;>first|rfl|(simp [flat] at h)
 |chan a=>cases a<;>first|rfl|(simp [flat] at h)
 |func f a b=>
  cases f<;>simp [flat] at h;obtain ⟨rfl,rfl⟩:=h;rfl
 |agg a=>simp [flat] at h
 |tuple a=>simp [flat] at h
 |iface t v=>simp [flat] at h
 |_=>rfl
theorem eD {n:Nat} {l:List Value} (h:bI l=true):cW n l=true:=dY.2 fun x hx=>kl (DR.1 h x hx)
theorem cg {n:Nat} {a b:List Value} (ha:cW n a=true) (hb:cW n b=true):cW n (a++b)=true:=by
 rw [dY] at *;intro x hx;rcases DU.1 hx with h|h
 ·exact ha x h
 ·exact hb x h
theorem tN {n k:Nat} {a:List Value} (ha:cW n a=true):cW n (a.take k)=true:=by rw [dY] at *;exact fun x hx=>ha x (EZ hx)
theorem tp {n k:Nat} {a:List Value} (ha:cW n a=true):cW n (a.drop k)=true:=by rw [dY] at *;exact fun x hx=>ha x (FJ hx)
theorem yO {n off:Nat} {a b:List Value} (ha:cW n a=true) (hb:cW n b=true):cW n (splice a off b)=true:=
 cg (cg (tN ha) hb) (tp ha)
theorem kI {n i:Nat} {a:List Value} {x:Value} (ha:cW n a=true) (hx:a[i]? = some x):cz n x=true:=dY.1 ha x (E3 hx)
theorem bdL_set {n i:Nat} {a:List Value} {x:Value} (ha:cW n a=true) (hx:cz n x=true):cW n (a.set i x)=true:=by
 rw [dY] at *;intro y hy;rcases HF hy with h|h
 ·exact ha y h
 ·subst h;exact hx
theorem bdL_getD {n i:Nat} {a:List Value} (ha:cW n a=true):cz n (a.getD i undef)=true:=by
 rw [DJ];cases h:a[i]? with
 |none=>rfl
 |some x=>exact kI ha h
theorem je {n:Nat} {a:Array Value}:cz n (.agg a)=cW n a.toList:=by obtain ⟨l⟩:=a;rfl
theorem BO {n:Nat} {a:Array Value}:cz n (.tuple a)=cW n a.toList:=by obtain ⟨l⟩:=a;rfl
theorem vp {n:Nat} {v:Value} (h:cz n v=true):cW n v.cells.toList=true:=by
 cases v with
 |agg a=>rw [je] at h;exact h
 |_=>simpa [Value.cells,cW] using h
def Mu.cut (μ:Mu) (n:Nat):Mu:=fun b=>if b<n then μ b else none
theorem Mu.eT {μ:Mu} {n b:Nat} {L:xj} (h:μ b=some L) (hb:b<n):μ.cut n b=some L:=by simp [Mu.cut,hb,h]
theorem Mu.C8 {μ:Mu} {n b:Nat} {L:xj} (h:μ.cut n b=some L):μ b=some L/\b<n:=by
 unfold Mu.cut at h;split at h
 ·exact ⟨h,by assumption⟩
 ·cases h
theorem aI.cut {μ:Mu} {n:Nat} {v v':Value} (h:aI μ v v') (hb:cz n v=true):aI (μ.cut n) v v':=by
 have arr : ∀ {xs ys:Array Value},cW n xs.toList=true->(∀ (i:Nat) (x y:Value),xs[i]? = some x->ys[i]? = some y->cz n x=true->aI (μ.cut n) x y) -> ∀ (i:Nat) (x y:Value),xs[i]? = some x->ys[i]? = some y->aI (μ.cut n) x y:=by intro xs ys hl ih i x y hx hy;exact ih i x y hx hy (kI (i:=i) hl (by simpa using hx))
 induction h with
 |flat h=>exact .flat h
 |ptr h=>simp only [cz,DS] at hb;exact .ptr (Mu.eT h hb)
 |slice h=>simp only [cz,DS] at hb;exact .slice (Mu.eT h hb)
 |vx h a b c d e=>simp only [cz,DS] at hb;exact .vx (Mu.eT h hb) a b c d e
 |jD h=>simp only [cz,DS] at hb;exact .jD (Mu.eT h hb)
 |map h=>simp only [cz,DS] at hb;exact .map (Mu.eT h hb)
 |zu=>exact .zu
 |agg hs _ ih=>rw [je] at hb;exact .agg hs (arr hb ih)
 |tuple hs _ ih=>rw [BO] at hb;exact .tuple hs (arr hb ih)
 | @func f g a b c d hf h1 _ h3 _ i1 i2=>
   obtain ⟨la⟩:=a;obtain ⟨lc⟩:=c;simp only [cz,DK] at hb;refine .func ?_ h1 (arr hb.2.1 i1) h3 (arr hb.2.2 i2);cases f with
   |yield l=>obtain ⟨L,h5,h6⟩:=hf;exact ⟨L,Mu.eT h5 (by simpa [bdF] using hb.1),h6⟩
   |_=>exact hf
 |iface _ ih=>simp only [cz] at hb;exact .iface (ih hb)
theorem aR.cut {μ:Mu} {n:Nat} {v v':List Value} (h:aR μ v v') (hb:cW n v=true):aR (μ.cut n) v v':=
 ⟨h.1,fun i x y hx hy=>(h.2 i x y hx hy).cut (kI hb hx)⟩
theorem oH.cut {μ:Mu} {n:Nat} {v v':List Value} (h:oH μ v v') (hb:cW n v=true):oH (μ.cut n) v v':=
 ⟨h.1,fun i x y hx hy hh=>(h.2 i x y hx hy hh).cut (kI hb hx)⟩
def uw (n:Nat):fN->Bool
 | .map es _=>es.all fun x=>cz n x.1&&cz n x.2.1
 | .iter m _ _ _=>match m with
   |some b=>decide (b<n)
   |none=>true
 | .loop _ _ tmps _ _ _=>cW n tmps
theorem yh {n m:Nat} (h:n<=m) {o:fN} (e:uw n o=true):uw m o=true:=by
 cases o with
 |map es c=>
  simp only [uw,DR,DK] at e |-;exact fun x hx=>⟨uj h (e x hx).1,uj h (e x hx).2⟩
 |iter m' a b c=>
  cases m' with
  |none=>rfl
  |some q=>simp only [uw,DS] at e |-;omega
 |loop a b c d f g=>exact bZ (l:=c) h e
theorem qv.cut {μ:Mu} {n:Nat} {o:fN} {ob:Obj} (h:qv μ o ob) (hb:uw n o=true):qv (μ.cut n) o ob:=by
 cases o with
 |map es c=>
  cases ob with
  |map es' c'=>
   obtain ⟨h1,h2,h3⟩:=h;simp only [uw,DR,DK] at hb;refine ⟨h1,h2,fun i x e hx he => ?_⟩;have hm:=hb x (E3 hx);obtain ⟨k1,k2,k3⟩:=h3 i x e hx he;exact ⟨k1.cut hm.1,k2.cut hm.2,k3⟩
  |_=>exact h.elim
 |iter m since seen st=>
  cases ob with
  |mapIter m' since' seen' st'=>
   obtain ⟨h1,h2⟩:=h;refine ⟨?_,h2⟩;cases m with
   |none=>cases m' with
    |none=>trivial
    |some B=>exact h1
   |some a=>
    cases m' with
    |none=>exact h1
    |some B=>
     obtain ⟨L,h3,h4⟩:=h1;exact ⟨L,Mu.eT h3 (by simpa [uw] using hb),h4⟩
  |_=>exact h.elim
 |loop st pend tmps params assign body=>
  cases ob with
  |loop r=>
   obtain ⟨h1,h2,h3,h4⟩:=h;exact ⟨h1,h2,h3.cut hb,h4⟩
  |_=>exact h.elim
structure aJ (h:ai):Prop where
 cell : ∀ b k,h.get b=some k->cW h.next k=true
 obj : ∀ b o,h.getB b=some (.obj o)->uw h.next o=true
instance {h:ai}:CoeFun (aJ h) (fun _ => ∀ b k,h.get b=some k->cW h.next k=true):=⟨aJ.cell⟩
theorem cI.cut {μ:Mu} {h:ai} {w:World} (s:cI μ h w) (hb:aJ h):cI (μ.cut h.next) h w:=by
 have hle:=h.n0_le_next;refine ⟨?_,?_,?_,?_,s.size,?_⟩
 ·intro b cs hbn hc;obtain ⟨L,arr,T,fr,h1,h2,h3,h4,h5⟩:=s.old b cs hbn hc;refine ⟨L,arr,T,fr,Mu.eT h1 (by omega),h2,h3,h4,h5.cut (hb b cs ?_)⟩;unfold ai.get ai.getB;rw [DL hbn,hc];rfl
 ·intro b k hbn hg;obtain ⟨L,arr,T,fr,h1,h2,h3,h4,h5,h6,h7,h8⟩:=s.new b k hbn hg;exact ⟨L,arr,T,fr,Mu.eT h1 (h.aO hg),h2,h3,h4,h5,h6,h7,h8.cut (hb b k hg)⟩
 ·intro b o hbn hg;obtain ⟨L,ob,h1,h2,h3,h4⟩:=s.obj b o hbn hg;exact ⟨L,ob,Mu.eT h1 (h.lt_of_getB hg),h2,h3.cut (hb.obj b o hg),h4⟩
 ·intro b b' k k' L L' h1 h2 h3 h4 h5 h6 h7;exact s.inj b b' k k' L L' h1 h2 h3 h4 h5 (Mu.C8 h6).1 (Mu.C8 h7).1
 ·intro b hbn;obtain ⟨L,h1,h2⟩:=s.low b hbn;exact ⟨L,Mu.eT h1 (by omega),h2⟩
theorem aJ.alloc {h:ai} {k:ju} (hb:aJ h) (hk:cW (h.next+1) k=true):aJ (h.alloc k):=by
 refine ⟨fun b k' hg => ?_,fun b o hg => ?_⟩
 ·rw [ai.aN] at hg;rw [ai.cO];split at hg
  ·cases hg;exact hk
  ·exact bZ (by omega) (hb b k' hg)
 ·rw [ai.cN] at hg;rw [ai.cO];split at hg
  ·cases hg
  ·exact yh (by omega) (hb.obj b o hg)
theorem aJ.rK {h:ai} {b:Nat} {x:Option BB} (hb:aJ h) (h0:h.n0<=b) (hn:b<h.next) (hk : ∀ k,x=some (.cells k)->cW h.next k=true) (ho : ∀ o,x=some (.obj o)->uw h.next o=true):aJ (h.put b x):=by
 refine ⟨fun c k' hg => ?_,fun c o hg => ?_⟩
 ·have hg:=(h.put b x).bg hg;rw [h.cT h0 hn] at hg;rw [ai.next_put];split at hg
  ·exact hk _ hg
  ·exact hb c k' (h.get_of_getB hg)
 ·rw [h.cT h0 hn] at hg;rw [ai.next_put];split at hg
  ·exact ho _ hg
  ·exact hb.obj c o hg
theorem aJ.setO {h:ai} {b:Nat} {k:BB} {o:fN} (hb:aJ h) (h0:h.n0<=b) (hg:h.getB b=some k) (ho:uw h.next o=true):aJ (h.setO b o):=
 hb.rK h0 (h.lt_of_getB hg) (fun _ e=>by cases e) (fun _ e=>by cases e;exact ho)
theorem aJ.allocO {h:ai} {o:fN} (hb:aJ h) (ho:uw (h.next+1) o=true):aJ (h.br (.obj o)):=by
 refine ⟨fun b k' hg => ?_,fun b o' hg => ?_⟩
 ·have hg:=(h.br _).bg hg;rw [ai.bO] at hg;rw [ai.gF];split at hg
  ·cases hg
  ·exact bZ (by omega) (hb b k' (h.get_of_getB hg))
 ·rw [ai.bO] at hg;rw [ai.gF];split at hg
  ·cases hg;exact ho
  ·exact yh (by omega) (hb.obj b o' hg)
theorem aJ.put {h:ai} {b:Nat} {x:Option ju} (hb:aJ h) (h0:h.n0<=b) (hn:b<h.next) (hk : ∀ k,x=some k->cW h.next k=true):aJ (h.put b (x.map .cells)):=by
 refine hb.rK h0 hn (fun k hx => ?_) (fun o hx => ?_)
 ·cases x with
  |none=>cases hx
  |some k'=>cases hx;exact hk _ rfl
 ·cases x with
  |none=>cases hx
  |some k'=>cases hx
theorem aJ.stL {b off:Nat} {xs:List Value} {h h':ai} (hb:aJ h) (hx:cW h.next xs=true) (e:stL b off xs h=some h'):aJ h':=by
 unfold Abs.stL at e;split at e
 ·rename_i k hk;split at e
  ·rename_i hc;simp only [DK,DS] at hc;cases e;exact hb.put (x:=some _) hc.1.1 (h.aO hk) (fun k' hk'=>by cases hk';exact yO (hb b k hk) hx)
  ·cases e
 ·cases e
section ops
variable {P:Program} {h h':ai} {v:Value}
theorem xQ {size n:Nat} {x:Value} {cs:List Value} (hb:aJ h) (e:firstA size n x h=some cs):cW h.next cs=true:=by
 unfold firstA at e;split at e
 ·split at e<;>cases e;rfl
 ·split at e
  ·cases e;rfl
  ·split at e
   ·rename_i k hk;split at e
    ·cases e;exact tN (tp (hb _ k hk))
    ·cases e
   ·cases e
 ·cases e;exact eD (by rw [bI,DR];intro x hx;obtain ⟨b,_,rfl⟩:=E0.1 hx;rfl)
 ·cases e
theorem xG {n:Nat} : ∀ {ts:List (Nat×Nat×Value)} {cells out:List Value},cW n cells=true->(∀ t∈ts,cz n t.2.2=true)->fillL cells ts=some out->cW n out=true
 | [],cells,out,hc,_,e=>by simp only [fillL,DA] at e;subst e;exact hc
 | (off,k,v)::ts,cells,out,hc,ht,e=>by
   simp only [fillL] at e;split at e
   ·exact xG (ts:=ts) (yO hc (vp (ht (off,k,v) (by simp)))) (fun t hm=>ht t (by simp [hm])) e
   ·cases e
theorem s9 {z:List Value} {n:Nat} (h:bI z=true):bI (dj z n)=true:=by simp only [bI,DR,dj,HO] at h |-;rintro x ⟨_,_,hx⟩;exact h x hx
theorem bd_append {size jt:Nat} {s x:Value} (hb:aJ h) (hs:cz h.next s=true) (e:appendA size jt s x h=some (v,h')):cz h'.next v=true/\aJ h':=by
 unfold appendA at e;split at e
 ·rename_i b9 len cap m hm;split at e
  ·cases e
  ·rename_i news hnews;have hn:=xQ hb hnews;split at e
   ·cases e
   ·split at e
    ·split at e
     ·cases e;exact ⟨hs,hb⟩
     ·split at e
      ·simp only [DQ,DN] at e;obtain ⟨h1,hst,rfl,rfl⟩:=e;have hgr:h1.next=h.next:=by
        unfold stL at hst;split at hst
        ·split at hst
         ·cases hst;rfl
         ·cases hst
        ·cases hst
       exact ⟨by rw [hgr];simpa [cz] using hs,hb.stL hn hst⟩
      ·cases e
    ·split at e
     ·split at e
      ·simp only [DA,DN] at e;obtain ⟨rfl,rfl⟩:=e;exact ⟨by simp [cz],hb.alloc (bZ (by omega) hn)⟩
      ·cases e
     ·split at e
      ·cases e
      ·rename_i olds holds;have ho:=xQ hb holds;split at e
       ·cases e
       ·split at e
        ·simp only [DA,DN] at e;obtain ⟨rfl,rfl⟩:=e;exact ⟨by simp [cz],hb.alloc (bZ (by omega) (cg ho hn))⟩
        ·split at e
         ·rename_i hc;simp only [DK,DS] at hc;obtain ⟨k,hk⟩:=FZ.1 hc.2;simp only [DA,DN] at e;obtain ⟨rfl,rfl⟩:=e;have hkl:aJ (h.kill _):=hb.put (x:=none) hc.1.2 (h.aO hk) (fun k' hk'=>by cases hk');exact ⟨by simp [cz],hkl.alloc (bZ (by simp) (cg ho hn))⟩
         ·cases e
 ·cases e
theorem bd_ld {t:TypeId} {x:Value} (hb:aJ h) (e:ld P t x h=some (v,h')):cz h'.next v=true/\aJ h':=by
 unfold ld at e;split at e
 ·unfold du at e;split at e
  ·split at e
   ·rename_i k hk;split at e
    ·simp only [DA,DN] at e;obtain ⟨rfl,rfl⟩:=e;exact ⟨by rw [je];exact tN (tp (hb _ k hk)),hb⟩
    ·cases e
   ·cases e
  ·cases e
 ·unfold ld1 at e;split at e
  ·split at e
   ·rename_i k hk;split at e
    ·rename_i c hc;split at e
     ·simp only [DA,DN] at e;obtain ⟨rfl,rfl⟩:=e;exact ⟨kI (hb _ k hk) hc,hb⟩
     ·cases e
    ·cases e
   ·cases e
  ·cases e
 ·cases e
theorem bd_st {t:TypeId} {x y:Value} (hb:aJ h) (hy:cz h.next y=true) (e:st P t x y h=some (v,h')):cz h'.next v=true/\aJ h':=by
 unfold st at e;split at e
 ·unfold eY at e;split at e
  ·split at e
   ·simp only [DQ,DN] at e;obtain ⟨h1,hst,rfl,rfl⟩:=e;exact ⟨rfl,hb.stL (vp hy) hst⟩
   ·cases e
  ·cases e
 ·cases e
theorem zq {n size:Nat} {x r:Value} {lo hi mx:Option Value} (hx:cz n x=true) (e:sliceSl size x lo hi mx=some r):cz n r=true:=by
 unfold sliceSl at e
 repeat' split at e
 all_goals first
  | (cases e;done)
  | (cases e;first|rfl|(simpa [cz] using hx))
theorem wF {n k size:Nat} {x r:Value} {lo hi mx:Option Value} (hx:cz n x=true) (e:sliceArr k size x lo hi mx=some r):cz n r=true:=by
 unfold sliceArr at e
 repeat' split at e
 all_goals first
  | (cases e;done)
  | (cases e;simpa [cz] using hx)
theorem bd_slice {n:Nat} {t:TypeId} {x r:Value} {lo hi mx:Option Value} (hx:cz n x=true) (e:sliceA P t x lo hi mx=some r):cz n r=true:=by
 unfold sliceA at e;split at e
 ·simp only [DZ] at e;obtain ⟨z,_,e⟩:=e;exact wF hx e
 ·split at e
  ·simp only [DZ] at e;obtain ⟨z,_,e⟩:=e;exact wF hx e
  ·cases e
 ·split at e
  ·cases e
  ·simp only [DZ] at e;obtain ⟨z,_,e⟩:=e;exact zq hx e
 ·split at e
  ·exact zq hx e
  ·cases e
 ·cases e
theorem bd_addP {n k:Nat} {x r:Value} (hx:cz n x=true) (e:aP x k=some r):cz n r=true:=by
 unfold aP at e;split at e
 ·cases e;simpa [cz,ptr] using hx
 ·cases e
theorem bd_fieldAt {n:Nat} {t:TypeId} {x r:Value} {i:Nat} (hx:cz n x=true) (e:fieldAtA P t x i=some r):cz n r=true:=by
 unfold fieldAtA at e
 repeat' split at e
 all_goals first
  | (cases e;done)
  |exact bd_addP hx e
theorem bd_indexAt {n:Nat} {t:TypeId} {x ix r:Value} (hx:cz n x=true) (e:indexAtA P t x ix=some r):cz n r=true:=by
 unfold indexAtA at e;split at e
 ·simp only [DZ] at e;obtain ⟨z,_,e⟩:=e;unfold idxA at e
  repeat' split at e
  all_goals first
   | (cases e;done)
   |exact bd_addP hx e
 ·simp only [DZ] at e;obtain ⟨z,_,e⟩:=e;unfold idxS at e
  repeat' split at e
  all_goals first
   | (cases e;done)
   | (cases e;simpa [cz,ptr] using hx)
 ·cases e
theorem bd_part {n:Nat} {t:TypeId} {cs:Array Value} {off:Nat} {r:Value} (hx:cW n cs.toList=true) (e:j9 P t cs off=some r):cz n r=true:=by
 unfold j9 at e;split at e
 ·cases e;rw [je];have : ∀ k,(cs.extract off (off+k)).toList=(cs.toList.drop off).take k:=by intro k;simp
  rw [this];exact tN (tp hx)
 ·exact kI (i:=off) hx (by simpa using e)
 ·cases e
theorem bd_field {n:Nat} {t:TypeId} {x r:Value} {i:Nat} (hx:cz n x=true) (e:fieldA P t x i=some r):cz n r=true:=by
 unfold fieldA at e;split at e
 ·split at e
  ·rw [je] at hx;exact bd_part hx e
  ·cases e
 ·cases e
theorem bd_index {n:Nat} {t:TypeId} {x ix r:Value} (hx:cz n x=true) (e:indexA P t x ix=some r):cz n r=true:=by
 unfold indexA at e;split at e
 ·split at e
  ·simp only [DZ] at e;obtain ⟨z,_,e⟩:=e;rw [je] at hx;exact bd_part hx e
  ·cases e
 ·split at e
  ·simp only [DQ] at e;obtain ⟨b,_,rfl⟩:=e;rfl
  ·cases e
 ·cases e
theorem bd_extract {n:Nat} {x r:Value} {i:Nat} (hx:cz n x=true) (e:extractA x i=some r):cz n r=true:=by
 unfold extractA at e;split at e
 ·rw [BO] at hx;exact kI (i:=i) hx (by simpa using e)
 ·cases e
theorem bd_nil {n:Nat} {x r:Value} (hx:cz n x=true) (e:nilCheckA x=some r):cz n r=true:=by unfold nilCheckA at e;split at e<;>cases e<;>exact hx
theorem bd_build {n:Nat} {t:TypeId} {ps:List (Nat×Value)} {r:Value} (hx : ∀ p∈ps,cz n p.2=true) (e:buildA P t ps=some r):cz n r=true:=by
 unfold buildA at e;split at e
 ·split at e
  ·rename_i hf;simp only [DK] at hf;split at e
   ·rename_i ts hts;simp only [DQ] at e;obtain ⟨cs,hcs,rfl⟩:=e;rw [je];refine xG (eD hf.1) ?_ hcs;have key : ∀ {fs:Array Field} {ps:List (Nat×Value)} {ts},(∀ p∈ps,cz n p.2=true)->fieldPlaces P fs ps=some ts -> ∀ t∈ts,cz n t.2.2=true:=by
     intro fs ps;induction ps with
     |nil=>intro ts _ h;simp [fieldPlaces] at h;subst h;simp
     |cons p ps ih=>
      intro ts hp h;unfold fieldPlaces at h;rw [HT] at h;simp only [bind,DZ,pure,DA] at h;obtain ⟨a,ha,l,hl,rfl⟩:=h;split at ha
      ·simp only [DQ] at ha;obtain ⟨k,_,rfl⟩:=ha;intro t ht;rcases FQ.1 ht with rfl|ht
       ·exact hp p (by simp)
       ·exact ih (fun q hq=>hp q (by simp [hq])) hl t ht
      ·cases ha
    exact key hx hts
   ·cases e
  ·cases e
 ·split at e
  ·split at e
   ·rename_i hf;simp only [DQ] at e;obtain ⟨cs,hcs,rfl⟩:=e;rw [je];refine xG (eD hf) ?_ hcs;intro t ht;obtain ⟨p,hp,rfl⟩:=E0.1 ht;exact hx p hp
   ·cases e
  ·cases e
 ·cases e
theorem bd_conv {s d:TypeId} {x:Value} (hb:aJ h) (hx:cz h.next x=true) (e:convA P s d x h=some (v,h')):cz h'.next v=true/\aJ h':=by
 unfold convA at e
 repeat' split at e
 all_goals first
  | (cases e;done)
  | (simp only [DA,DN] at e
     obtain ⟨rfl,rfl⟩:=e;first
      |exact ⟨rfl,hb⟩
      |exact ⟨hx,hb⟩
      |exact ⟨by simp [cz],hb.alloc (eD (by rw [bI,DR];intro x hx;obtain ⟨b,_,rfl⟩:=E0.1 hx;rfl))⟩)
theorem bd_make {t:TypeId} {l c:Value} (hb:aJ h) (e:makeA P t l c h=some (v,h')):cz h'.next v=true/\aJ h':=by
 unfold makeA at e;split at e
 ·split at e
  ·split at e
   ·rename_i hc;simp only [DK,DS] at hc;simp only [DA,DN] at e;obtain ⟨rfl,rfl⟩:=e;exact ⟨by simp [cz],hb.alloc (eD (s9 hc.1.1.2))⟩
   ·cases e
  ·cases e
 ·cases e
theorem AB {t:TypeId} {len:Nat} {ps:List (Nat×Value)} (hb:aJ h) (hx : ∀ p∈ps,cz h.next p.2=true) (e:buildSliceA P t len ps h=some (v,h')):cz h'.next v=true/\aJ h':=by
 unfold buildSliceA at e;split at e
 ·split at e
  ·split at e
   ·rename_i hc;simp only [DK,DS] at hc;split at e
    ·rename_i cs hcs;simp only [DA,DN] at e;obtain ⟨rfl,rfl⟩:=e;refine ⟨by simp [cz],hb.alloc (bZ (HZ _) (xG (eD (s9 hc.1.1.1.1)) ?_ hcs))⟩;intro t ht;obtain ⟨p,hp,rfl⟩:=E0.1 ht;exact hx p hp
    ·cases e
   ·cases e
  ·cases e
 ·cases e
theorem uZ {n:Nat} {mx:Bool} : ∀ {l:List Value} {x r:Value},cz n x=true->minmax mx x l=some r->cz n r=true
 | [],x,r,hx,e=>by cases e;exact hx
 |y::l,x,r,hx,e=>by
  unfold minmax at e;split at e
  ·rename_i h;cases h
  ·rename_i k a k' b cU heq;cases heq;split at e
   ·exact uZ (l:=l) rfl e
   ·cases e
  ·cases e
theorem bd_entries {x:Value} {es:List (Value×Value×Nat)} (hb:aJ h) (e:entriesA x h=some es) : ∀ p∈es,cz h.next p.1=true/\cz h.next p.2.1=true:=by
 unfold entriesA at e;split at e
 ·cases e;simp
 ·split at e
  ·rename_i b es' c hg;cases e;have:=hb.obj _ _ hg;simpa [uw] using this
  ·cases e
 ·cases e
theorem nV {t:TypeId} {k:Value} : ∀ {es:List (Value×Value×Nat)} {n i:Nat} {v:Value},findA P t k es n=some (some (i,v))->n<=i /\ ∃ x,es[i-n]? = some x/\x.2.1=v/\eqA P t k x.1=some true
 | [],n,i,v,e=>by simp [findA] at e
 |x::es,n,i,v,e=>by
  unfold findA at e;split at e
  ·rename_i he;simp only [DA,DN] at e;obtain ⟨rfl,rfl⟩:=e;exact ⟨DD _,x,by simp,rfl,he⟩
  ·obtain ⟨h1,y,h2,h3⟩:=nV e;refine ⟨by omega,y,?_,h3⟩;rw [show i-n=(i-(n+1))+1 by omega];exact h2
  ·cases e
theorem bd_lookup {t:TypeId} {x k:Value} {ok:Bool} (hb:aJ h) (e:lookupA P t x k ok h=some (v,h')):cz h'.next v=true/\aJ h':=by
 have gr : ∀ {z:Value},ground z=true->cz h.next z=true:=by
  intro z hz;cases z with
  |agg cs=>rw [je];exact eD (by simpa [ground] using hz)
  |_=>exact kl hz
 unfold lookupA at e;split at e
 ·rename_i kt et es _ hes;split at e
  ·split at e
   ·rename_i i v1 z hf hz;obtain ⟨_,y,hy,rfl,_⟩:=nV hf;have hm:=bd_entries hb hes y (E3 hy);simp only [DA,DN] at e;obtain ⟨rfl,rfl⟩:=e;refine ⟨?_,hb⟩;split
    ·simp [cz,cW,hm.2]
    ·exact hm.2
   ·rename_i z hz;split at e
    ·rename_i hgz;simp only [DA,DN] at e;obtain ⟨rfl,rfl⟩:=e;refine ⟨?_,hb⟩;split
     ·simp [cz,cW,gr hgz]
     ·exact gr hgz
    ·cases e
   ·cases e
  ·cases e
 ·cases e
theorem qN {n:Nat} {z:Value} (hz:ground z=true):cz n z=true:=by
 cases z with
 |agg cs=>rw [je];exact eD (by simpa [ground] using hz)
 |_=>exact kl hz
theorem lj {n:Nat} {es:List (Value×Value×Nat)} {c:Nat} {i:Nat} {x:Value×Value×Nat} (hb:uw n (.map es c)=true) (h1:cz n x.1=true) (h2:cz n x.2.1=true) (c':Nat):uw n (.map (es.set i x) c')=true:=by
 simp only [uw,DR,DK] at hb |-;intro y hy;rcases HF hy with h|h
 ·exact hb y h
 ·subst h;exact ⟨h1,h2⟩
theorem qG {n:Nat} {es:List (Value×Value×Nat)} {c:Nat} {x:Value×Value×Nat} (hb:uw n (.map es c)=true) (h1:cz n x.1=true) (h2:cz n x.2.1=true) (c':Nat):uw n (.map (es ++ [x]) c')=true:=by
 simp only [uw,DR,DK] at hb |-;intro y hy;rcases DU.1 hy with h|h
 ·exact hb y h
 ·rw [EK.1 h];exact ⟨h1,h2⟩
theorem lu {n:Nat} {es:List (Value×Value×Nat)} {c i:Nat} {x:Value×Value×Nat} (hb:uw n (.map es c)=true) (hx:es[i]? = some x):cz n x.1=true/\cz n x.2.1=true:=by simp only [uw,DR,DK] at hb;exact hb x (E3 hx)
theorem uq {t:TypeId} {m k x:Value} (hb:aJ h) (hx:cz h.next x=true) (e:mapUpdateA P t m k x h=some (v,h')):cz h'.next v=true/\aJ h':=by
 unfold mapUpdateA at e;split at e
 ·split at e
  ·rename_i b es clock hg;have ho:=hb.obj _ _ hg;have h0:=h.bE hg;split at e
   ·rename_i hk;simp only [DK] at hk;have hkb:=qN (n:=h.next) hk.2;split at e
    ·split at e
     ·split at e
      ·cases e;exact ⟨rfl,hb.setO h0 hg (lj ho hkb hx _)⟩
      ·cases e
     ·cases e
    ·cases e;exact ⟨rfl,hb.setO h0 hg (qG ho hkb hx _)⟩
    ·cases e
   ·cases e
  ·cases e
 ·cases e
theorem bd_mapEntry {t:TypeId} {m k:Value} (hb:aJ h) (e:jH P t m k h=some (v,h')):cz h'.next v=true/\aJ h':=by
 unfold jH at e;split at e
 ·split at e
  ·rename_i b es clock hg;have ho:=hb.obj _ _ hg;have h0:=h.bE hg;split at e
   ·rename_i hk;simp only [DK] at hk;have hkb:=qN (n:=h.next) hk.2;split at e
    ·rename_i i v1 hf;obtain ⟨_,y,hy,rfl,_⟩:=nV hf;split at e
     ·rename_i x hx;split at e
      ·cases e;have hm:=lu ho hx;have hm2:=lu ho hy;exact ⟨by simp only [ai.kQ,cz,cW,D9,hm2.2,EM];rfl,hb.setO h0 hg (lj (x:=(k,x.2.1,x.2.2)) ho hkb hm.2 _)⟩
      ·cases e
     ·cases e
    ·split at e
     ·rename_i z hz;split at e
      ·rename_i hgz;cases e;exact ⟨by simp only [ai.kQ,cz,cW,D9,qN hgz,EM];rfl,hb.setO h0 hg (qG ho hkb (qN hgz) _)⟩
      ·cases e
     ·cases e
    ·cases e
   ·cases e
  ·cases e
 ·cases e
theorem Al {m s x:Value} (hb:aJ h) (hx:cz h.next x=true) (e:entryStoreA m s x h=some (v,h')):cz h'.next v=true/\aJ h':=by
 unfold entryStoreA at e;split at e
 ·split at e
  ·rename_i b n es clock hg;have ho:=hb.obj _ _ hg;have h0:=h.bE hg;split at e
   ·split at e
    ·rename_i y hy;cases e;exact ⟨rfl,hb.setO h0 hg (lj (x:=(y.1,x,y.2.2)) ho (lu ho hy).1 hx _)⟩
    ·cases e
   ·cases e
  ·cases e
 ·cases e
theorem bd_makeMap {r:Option Value} {t:TypeId} (hb:aJ h) (e:iv r P t h=some (v,h')):cz h'.next v=true/\aJ h':=by
 unfold iv at e;split at e
 ·cases e;exact ⟨by simp [cz],hb.allocO rfl⟩
 ·split at e
  ·cases e;exact ⟨by simp [cz],hb.allocO rfl⟩
  ·cases e
 ·cases e
theorem bd_range {t:TypeId} {x:Value} (hb:aJ h) (e:rangeA P t x h=some (v,h')):cz h'.next v=true/\aJ h':=by
 unfold rangeA at e;split at e
 ·cases e;exact ⟨by simp [cz,ptr],hb.allocO rfl⟩
 ·split at e
  ·rename_i b es clock hg;cases e;have:=h.lt_of_getB hg;exact ⟨by simp [cz,ptr],hb.allocO (by simp only [uw,DS];omega)⟩
  ·cases e
 ·cases e
theorem bd_nexts {it:Value} {l:List (Value×ai)} (hb:aJ h) (e:nextsA it h=some l) : ∀ p∈l,cz p.2.next p.1=true/\aJ p.2:=by
 unfold nextsA at e;split at e
 ·split at e
  ·cases e;intro p hp;rw [EK.1 hp];exact ⟨rfl,hb⟩
  ·rename_i r m since seen iC hr;split at e
   ·rename_i es clock hm;simp only [DQ] at e;obtain ⟨cs,hc,rfl⟩:=e;intro p hp;obtain ⟨c,hcm,rfl⟩:=E0.1 hp;cases c with
    |none=>exact ⟨rfl,hb⟩
    |some c=>
     unfold vM at hc;split at hc
     ·cases hc
     ·simp only [DA] at hc;subst hc;have hin:c∈es:=by
       rcases DU.1 hcm with h1|h1
       ·split at h1
        ·simp at h1
        ·cases h1
       ·simp only [FH,DU,E0,DA,exists_eq_right] at h1;rcases h1 with h1|h1
        ·exact (EE.1 (EE.1 h1).1).1
        ·exact (EE.1 (EE.1 h1).1).1
      have hbm:=hb.obj _ _ hm;simp only [uw,DR,DK] at hbm;have hq:=hbm c hin;refine ⟨by simp only [stepTo,ai.kQ,cz,cW,hq.1,hq.2,GK],hb.setO (h.bE hr) hr ?_⟩;simp only [uw,DS];exact h.lt_of_getB hm
   ·cases e
  ·cases e
 ·cases e
theorem bd_next {it:Value} {str:Bool} (hb:aJ h) (e:nextA it str h=some (v,h')):cz h'.next v=true/\aJ h':=by
 unfold nextA at e;split at e
 ·cases e
 ·split at e
  ·rename_i r hr;cases e;exact bd_nexts hb hr (v,h') (by simp)
  ·cases e
theorem bd_delete {t:TypeId} {m k:Value} (hb:aJ h) (e:deleteA P t m k h=some (v,h')):cz h'.next v=true/\aJ h':=by
 unfold deleteA at e;split at e
 ·split at e
  ·split at e
   ·cases e;exact ⟨rfl,hb⟩
   ·split at e
    ·rename_i b es clock hg;have ho:=hb.obj _ _ hg;have h0:=h.bE hg;split at e
     ·cases e;refine ⟨rfl,hb.setO h0 hg ?_⟩;simp only [uw,DR,DK] at ho |-;exact fun x hx=>ho x (List.mem_of_mem_eraseIdx hx)
     ·cases e;exact ⟨rfl,hb.setO h0 hg ho⟩
     ·cases e
    ·cases e
   ·cases e
  ·cases e
 ·cases e
theorem bd_mapClear {x:Value} (hb:aJ h) (e:jQ x h=some (v,h')):cz h'.next v=true/\aJ h':=by
 unfold jQ at e;split at e
 ·cases e;exact ⟨rfl,hb⟩
 ·split at e
  ·rename_i b es clock hg;cases e;exact ⟨rfl,hb.setO (h.bE hg) hg rfl⟩
  ·cases e
 ·cases e
theorem bd_builtin {b:Builtin} {ts:List TypeId} {args:List Value} (hb:aJ h) (ha:cW h.next args=true) (e:builtinA P b ts args h=some (v,h')):cz h'.next v=true/\aJ h':=by
 unfold builtinA at e;split at e
 ·simp only [cW,DK] at ha
  repeat' split at e
  all_goals first
   | (cases e;done)
   |exact bd_append hb ha.1 e
 ·split at e
  ·simp only [DZ] at e;obtain ⟨n,_,e⟩:=e;unfold tC at e;split at e
   ·simp only at e;split at e
    ·cases e
    ·rename_i news hn;split at e
     ·cases e;exact ⟨rfl,hb⟩
     ·split at e
      ·cases e
      ·simp only [DQ,DN] at e;obtain ⟨h1,hst,rfl,rfl⟩:=e;exact ⟨rfl,hb.stL (xQ hb hn) hst⟩
   ·cases e
  ·cases e
 ·split at e
  ·simp only [DZ] at e;obtain ⟨n,_,e⟩:=e;unfold clearA at e;split at e
   ·cases e;exact ⟨rfl,hb⟩
   ·split at e
    ·cases e;exact ⟨rfl,hb⟩
    ·split at e
     ·split at e
      ·rename_i hc;simp only [DK,DS] at hc;simp only [DQ,DN] at e;obtain ⟨h1,hst,rfl,rfl⟩:=e;exact ⟨rfl,hb.stL (eD (s9 hc.1.1)) hst⟩
      ·cases e
     ·cases e
   ·cases e
  ·split at e
   ·exact bd_mapClear hb e
   ·cases e
 ·split at e
  ·rename_i r hr;cases e;unfold lenOfT at hr
   repeat' split at hr
   all_goals first
    | (cases hr;done)
    | (cases hr;exact ⟨rfl,hb⟩)
  ·split at e
   ·simp only [DQ,DN] at e;obtain ⟨r,hr,rfl,rfl⟩:=e;unfold xC at hr;simp only [DQ] at hr;obtain ⟨_,_,rfl⟩:=hr;exact ⟨rfl,hb⟩
   ·cases e
 ·exact bd_delete hb e
 ·simp only [cW,DK] at ha;simp only [DQ,DN] at e;obtain ⟨r,hr,rfl,rfl⟩:=e;exact ⟨uZ ha.1 hr,hb⟩
 ·simp only [cW,DK] at ha;simp only [DQ,DN] at e;obtain ⟨r,hr,rfl,rfl⟩:=e;exact ⟨uZ ha.1 hr,hb⟩
 ·cases e
end ops
end
abbrev aS:Value := .int .u8 0
abbrev tf:Value := .int .i64 0
abbrev zU6:Value := .int .u64 0
abbrev zU3:Value := .int .u32 0
abbrev zSl:Value := .slice none 0 0
abbrev zBf:Value := .bool false
abbrev zp:List Value := [aS,tf,tf,zU6,tf,tf,zSl,zSl,zSl,tf,aS,aS,aS,aS,aS,aS,aS,aS,aS,aS,aS,aS,aS,aS,aS,aS,aS,aS,aS,aS,aS,aS,aS,aS,aS,aS,aS,aS,aS,aS,aS,aS,zSl,zBf,aS,aS,aS,aS,aS,aS,aS,aS,aS,aS,aS,aS,aS,aS,aS,aS,aS,aS,aS,aS,aS,aS,aS,aS,aS,aS,aS,aS,aS,aS,aS,aS,tf,tf,tf,tf,aS,aS,aS,aS,aS,aS,aS,aS,aS,aS,aS,aS,aS,aS,aS,aS,aS,aS,aS,aS,aS,aS,aS,aS,aS,aS,aS,aS,aS,aS,aS,aS,zSl,tf,zSl,tf]
abbrev mE:List Value := [aS,aS,aS,aS,aS,aS,aS,aS,aS,aS,aS,aS,aS,aS,aS,aS,aS,aS,aS,aS,aS,aS,aS,aS,aS,aS,aS,aS,aS,aS,aS,aS,aS,tf,zU6,zU6,zBf,tf,tf]
abbrev pg:Array Value := #[aS,aS,aS,aS,aS,aS,aS,aS,aS,aS,aS,aS,aS,aS,aS,aS,aS,aS,aS,aS,aS,aS,aS,aS,aS,aS,aS,aS,aS,aS,aS,aS,aS,tf,zU6,zU6,zBf,tf,tf]
abbrev zlit3:Array Value := #[aS,tf,tf,zU6,tf,tf,zSl,zSl,zSl,tf,aS,aS,aS,aS,aS,aS,aS,aS,aS,aS,aS,aS,aS,aS,aS,aS,aS,aS,aS,aS,aS,aS,aS,aS,aS,aS,aS,aS,aS,aS,aS,aS,zSl,zBf,aS,aS,aS,aS,aS,aS,aS,aS,aS,aS,aS,aS,aS,aS,aS,aS,aS,aS,aS,aS,aS,aS,aS,aS,aS,aS,aS,aS,aS,aS,aS,aS,tf,tf,tf,tf,aS,aS,aS,aS,aS,aS,aS,aS,aS,aS,aS,aS,aS,aS,aS,aS,aS,aS,aS,aS,aS,aS,aS,aS,aS,aS,aS,aS,aS,aS,aS,aS,zSl,tf,zSl,tf]
abbrev zlit4:List Value := [zU3,zU3,zU3,zU3,zU3,zU3,zU3,zU3,aS,aS,aS,aS,aS,aS,aS,aS,aS,aS,aS,aS,aS,aS,aS,aS,aS,aS,aS,aS,aS,aS,aS,aS,aS,aS,aS,aS,aS,aS,aS,aS,aS,aS,aS,aS,aS,aS,aS,aS,aS,aS,aS,aS,aS,aS,aS,aS,aS,aS,aS,aS,aS,aS,aS,aS,aS,aS,aS,aS,aS,aS,aS,aS,tf]
abbrev BJ:List Value := [aS,aS,aS,aS,aS,aS,aS,aS,aS,aS,aS,aS,aS,aS,aS,aS,aS,aS,aS,aS,aS,aS,aS,aS,aS,aS,aS,aS,aS,aS,aS,aS,aS,tf]
end Go.Abs
