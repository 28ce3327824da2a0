/-
  A part of the proof, spaces and names shortened by a program (a claim may hold 1,500,000 bytes).
  Conditions: as each theorem states.
-/
import Derived.Test.YtdnahgfgoajmcaaGreatDoorG1
import Derived.Orders
import Derived.Scope
import Derived.WalkKit
namespace Go.Abs
section
section ops
variable {P:Program} {μ:Mu} {h:ad} {w:World}
theorem make_sound {t:TypeId} {l l' c c' r:Value} {h':ad} (s:cm μ h w) (hf:fh μ h h') (hl:aG μ l l') (hc:aG μ c c') (e:makeA P t l c h=some (r,h')) :
  ∃ μ' r' w',(Instr.makeSlice t l' c').run P w = .ok r' w'/\cm μ' h' w'/\cd μ h w μ' h' w'/\aG μ' r r':=by
 unfold makeA at e;cases hu:P.underlying t with
 |none=>rw [show elemT P t=none from by simp [elemT,hu]] at e;cases e
 |some d=>
  cases d with
  |slice el=>
   rw [show elemT P t=some el from by simp [elemT,hu]] at e;split at e
   ·rename_i _ _ _ l c heq;cases heq;rw [hl.int,hc.int];split at e
    ·rename_i n oC z hn hb hz;split at e
     ·rename_i hcond;simp only [DJ,DR] at hcond;obtain ⟨⟨⟨⟨⟨⟨h0,h1⟩,h2⟩,h3⟩,hfl⟩,hzn⟩,hpos⟩:=hcond;simp only [DE,DO] at e;obtain ⟨rfl,rfl⟩:=e;obtain ⟨i,hi,hin⟩:=mj hn;have hib:i.bytes=oC:=by simp only [yW,hi,Option.map_some,DE] at hb;exact hb
      have wl:IntKind.i64.wrap l=l:=IntWalk.i64_in _ (by omega);have wc:IntKind.i64.wrap c=c:=IntWalk.i64_in _ (by omega);have hz1:cU z.cells.toList c.toNat=(List.range (c.toNat*n)).map fun i=>z.cells[i%z.cells.size]! := by rw [<-hzn,lK z.cells (by omega)]
      obtain ⟨μ',w',hrun,hS,hSt,L,hL,hB,hO,_⟩:=jO (P:=P) s hf (aP.jm (μ:=μ) (l:=cU z.cells.toList c.toNat) (by simp only [bJ,DT,cU,GQ] at hfl |-;rintro x ⟨_,_,hx⟩;exact hfl x hx)) el
      have harr:(Array.range (c.toNat*n)).map (fun i=>z.cells[i%z.cells.size]!)=(cU z.cells.toList c.toNat).toArray:=by apply H3;rw [hz1];simp
      refine ⟨μ',.slice (some ⟨w.heap.size,0,none⟩) l.toNat c.toNat,w',?_,hS,hSt,?_⟩
      ·have hlarge:(decide (c<0)||decide ((i.bytes:Int)*c>2^48))=false:=by
        rw [hib];simp only [Bool.or_eq_false_iff,FM];refine ⟨by omega,?_⟩;have:(2:Int)^48=281474976710656:=by decide
        omega
       unfold Instr.makeSlice;simp only [Sem.run_bind,run_underlying hu,Result.andThen_ok,asInt,asIntOf,Sem.run_pure,eE w hi,wl,wc];rw [hlarge];have hlt:decide (l<0)=false:=by simp;omega
       have hgt:decide (l>c)=false:=by simp;omega
       simp only [hlt,hgt,Bool.or_self,DD,D3,Sem.run_bind,run_askRoom,Result.andThen_ok,cM w hn];by_cases hcz:c.toNat*n=0
       ·have hr0:Array.range (c.toNat*n) = #[]:=by rw [hcz];rfl
        have hnil:cU z.cells.toList c.toNat = []:=by rw [hz1,hcz];rfl
        rw [hnil] at hrun;rw [DL hcz,hr0];simp [hrun]
       ·rw [DM hcz];simp only [Sem.run_bind,fD w hz,Result.andThen_ok,Sem.run_pure,harr,hrun]
      ·have:=aG.slice (off:=0) (len:=l.toNat) (cap:=c.toNat) hL;rw [hB,hO] at this;exact this
     ·cases e
    ·cases e
   ·cases e
  |_=>rw [show elemT P t=none from by simp [elemT,hu]] at e;cases e
def sG (μ:Mu) (x y:Option Value):Prop:=(x=none/\y=none) \/ ∃ a b,x=some a/\y=some b/\aG μ a b
theorem zT {d y n:Nat} {x x':Option Value} (hx:sG μ x x') (e:boundA d y x=some n):x'=x:=by
 rcases hx with ⟨rfl,rfl⟩|⟨a,b,rfl,rfl,hv⟩
 ·rfl
 ·unfold boundA at e;split at e
  ·rename_i heq;cases heq
  ·rename_i k i heq;cases heq;rw [hv.int]
  ·cases e
theorem jc {len cap:Nat} {lo hi mx lo' hi' mx':Option Value} {r:Nat×Nat×Nat} (h1:sG μ lo lo') (h2:sG μ hi hi') (h3:sG μ mx mx') (e:boundsA len cap lo hi mx=some r) :
  lo'=lo/\hi'=hi/\mx'=mx:=by
 unfold boundsA at e;split at e
 ·rename_i m hm;split at e
  ·cases e
  ·split at e
   ·rename_i h hh;split at e
    ·rename_i l hl;exact ⟨zT h1 hl,zT h2 hh,zT h3 hm⟩
    ·cases e
   ·cases e
 ·cases e
theorem gi {d y n:Nat} {v:Value} {code:BoundsCode} (e:boundA d y (some v)=some n):(Instr.sliceBound v y code).run P w = .ok n w:=by
 unfold boundA at e;split at e
 ·rename_i heq;cases heq
 ·rename_i k i heq;cases heq;split at e
  ·rename_i hc;cases e;simp [Instr.sliceBound,asIntOf,hc]
  ·cases e
 ·cases e
theorem nK {isSl:Bool} {len cap:Nat} {lo hi mx:Option Value} {r:Nat×Nat×Nat} (e:boundsA len cap lo hi mx=some r) :
  (Instr.sliceBounds isSl len cap lo hi mx).run P w = .ok r w:=by
 unfold boundsA at e;split at e
 ·rename_i m hm;split at e
  ·cases e
  ·rename_i hne;split at e
   ·rename_i h hh;split at e
    ·rename_i l hl;cases e;unfold Instr.sliceBounds;cases mx with
     |none=>
      simp only [boundA,DE] at hm;subst hm;cases hi with
      |none=>
       simp only [boundA,DE] at hh;subst hh;cases lo with
       |none=>simp only [boundA,DE] at hl;subst hl;simp
       |some v=>simp [gi hl]
      |some u=>
       cases lo with
       |none=>simp only [boundA,DE] at hl;subst hl;simp [gi hh]
       |some v=>simp [gi hl,gi hh]
     |some t=>
      cases hi with
      |none=>exact (hne _ rfl rfl).elim
      |some u=>
       cases lo with
       |none=>simp only [boundA,DE] at hl;subst hl;simp [gi hh,gi hm]
       |some v=>simp [gi hl,gi hh,gi hm]
    ·cases e
   ·cases e
 ·cases e
theorem uO {len cap:Nat} {lo hi mx:Option Value} {l h m:Nat} (hlc:len<=cap) (e:boundsA len cap lo hi mx=some (l,h,m)):l<=h/\h<=m/\(mx=none->m=cap):=by
 have b : ∀ {d y n:Nat} {x:Option Value},boundA d y x=some n->(x=none/\n=d)\/n<=y:=by
  intro d y n x e;unfold boundA at e;split at e
  ·cases e;exact .inl ⟨rfl,rfl⟩
  ·split at e
   ·rename_i hc;cases e;right;omega
   ·cases e
  ·cases e
 unfold boundsA at e;split at e
 ·rename_i m' hm;split at e
  ·cases e
  ·rename_i hne;split at e
   ·rename_i h' hh;split at e
    ·rename_i l' hl;cases e;have hm':m=cap\/mx≠none:=by
      cases mx with
      |none=>simp only [boundA,DE] at hm;exact .inl hm.symm
      |some v=>right;simp
     refine ⟨?_,?_,?_⟩
     ·rcases b hl with ⟨_,rfl⟩|h1
      ·exact FN _
      ·exact h1
     ·rcases b hh with ⟨h0,rfl⟩|h1
      ·subst h0;cases mx with
       |none=>simp only [boundA,DE] at hm;omega
       |some v=>exact (hne _ rfl rfl).elim
      ·exact h1
     ·intro h0;subst h0;simp only [boundA,DE] at hm;exact hm.symm
    ·cases e
   ·cases e
 ·cases e
theorem zN {len cap cap':Nat} {lo hi:Option Value} {l h m:Nat} (hc:cap<=cap') (e:boundsA len cap lo hi none=some (l,h,m)):boundsA len cap' lo hi none=some (l,h,cap'):=by
 have b : ∀ {d y y' n:Nat} {x:Option Value},y<=y'->boundA d y x=some n->boundA d y' x=some n:=by
  intro d y y' n x hy e;unfold boundA at e |-;split at e
  ·exact e
  ·split at e
   ·rename_i hc;rw [DL (by omega)];exact e
   ·cases e
  ·cases e
 have hn : ∀ c,boundA c c none=some c:=fun _=>rfl;unfold boundsA at e |-;rw [hn] at e |-;cases hi with
 |none=>
  simp only at e |-;have hl:boundA len cap none=some len:=rfl;have hl':boundA len cap' none=some len:=rfl;rw [hl] at e;rw [hl'];simp only at e |-;split at e
  ·cases e;rfl
  ·cases e
 |some u=>
  simp only at e |-;split at e
  ·rename_i h' hh;rw [b hc hh];simp only;split at e
   ·cases e;rfl
   ·cases e
  ·cases e
theorem bounds_le' {len cap:Nat} {lo hi:Option Value} {u:Value} {l h m:Nat} (e:boundsA len cap lo hi (some u)=some (l,h,m)):l<=h/\h<=m/\m<=cap:=by
 have b : ∀ {d y n:Nat} {x:Option Value},boundA d y x=some n->(x=none/\n=d)\/n<=y:=by
  intro d y n x e;unfold boundA at e;split at e
  ·cases e;exact .inl ⟨rfl,rfl⟩
  ·split at e
   ·rename_i hc;cases e;right;omega
   ·cases e
  ·cases e
 unfold boundsA at e;split at e
 ·rename_i m' hm;split at e
  ·cases e
  ·rename_i hne;split at e
   ·rename_i h' hh;split at e
    ·rename_i l' hl;cases e;refine ⟨?_,?_,by rcases b hm with ⟨q,_⟩|h1;exact absurd q (by simp);exact h1⟩
     ·rcases b hl with ⟨_,rfl⟩|h1
      ·exact FN _
      ·exact h1
     ·rcases b hh with ⟨h0,rfl⟩|h1
      ·subst h0;exact (hne _ rfl rfl).elim
      ·exact h1
    ·cases e
   ·cases e
 ·cases e
theorem bounds_capS {len cap cap':Nat} {lo hi:Option Value} {u:Value} {r:Nat×Nat×Nat} (hc:cap<=cap') (e:boundsA len cap lo hi (some u)=some r):boundsA len cap' lo hi (some u)=some r:=by
 have hm : ∀ n,boundA cap cap (some u)=some n->boundA cap' cap' (some u)=some n:=by
  intro n e;unfold boundA at e |-;cases u with
  |int k i=>
   simp only at e |-;split at e
   ·rename_i h;rw [DL ⟨h.1,by omega⟩];exact e
   ·cases e
  |_=>cases e
 unfold boundsA at e |-;cases hb:boundA cap cap (some u) with
 |none=>rw [hb] at e;cases e
 |some m=>
  rw [hb] at e;rw [hm m hb];exact e
theorem Al {t el:TypeId} {size:Nat} {x x' r:Value} {lo hi mx lo' hi' mx':Option Value} (hu:P.underlying t=some (.slice el)) (hz:cK P el=some size)
  (hx:aG μ x x') (h1:sG μ lo lo') (h2:sG μ hi hi') (h3:sG μ mx mx') (hstr : ∀ s,x ≠ .string s) (e:sliceSl size x lo hi mx=some r) :
  ∃ r',(Instr.slice t x' lo' hi' mx').run P w = .ok r' w/\aG μ r r':=by
 have run : ∀ (a:Option Addr) (len cap:Nat) {l h m:Nat},boundsA len cap lo' hi' mx'=some (l,h,m) ->
   (Instr.slice t (.slice a len cap) lo' hi' mx').run P w = .ok (.slice (if m=l then a else a.map (·.add (l*size))) (h-l) (m-l)) w:=by
  intro a len cap l h m hb;unfold Instr.slice;simp [run_underlying hu,nK (P:=P) (w:=w) hb,cM w hz]
 unfold sliceSl at e;split at e
 ·rename_i len cap;split at e
  ·rename_i l h m hb;cases e;obtain ⟨rfl,rfl,rfl⟩:=jc h1 h2 h3 hb;rw [hx.bK rfl];exact ⟨_,run _ _ _ hb,by
    have:(if m=l then (none:Option Addr) else Option.map (fun (a:Addr)=>a.add (l*size)) none)=none:=by split<;>rfl
    rw [this];exact .flat rfl⟩
  ·cases e
 ·rename_i b off len cap;split at e
  ·rename_i l h m hb;cases e;obtain ⟨rfl,rfl,rfl⟩:=jc h1 h2 h3 hb;cases hx with
   |flat h=>simp [flat] at h
   |slice hL=>
    rename_i L;refine ⟨_,run _ _ _ hb,?_⟩;by_cases hm:m=l
    ·simp only [hm,DY];exact .slice hL
    ·simp only [hm,D3,Option.map_some,Addr.add_lit];have:=aG.slice (off:=off+l*size) (len:=h-l) (cap:=m-l) hL;rw [<-Nat.add_assoc] at this;exact this
  ·cases e
 ·rename_i b off s len cap;split at e
  ·rename_i u;split at e
   ·rename_i l h m hb;split at e
    ·rename_i hs;obtain ⟨hs,hs0⟩:=hs;subst hs;obtain ⟨rfl,rfl,rfl⟩:=jc h1 h2 h3 hb;obtain ⟨k1,k2,k9⟩:=bounds_le' hb;cases hx with
     |flat h=>simp [flat] at h
     |vq hL hl hc hm' g1 g2=>
      rename_i cap' L;have hb':=bounds_capS hc hb;refine ⟨_,run _ _ _ hb',?_⟩;by_cases hm:m=l
      ·rw [DL hm] at e;cases e;obtain rfl:h=m:=by omega
       subst hm;simp only [DY,H4];exact .iX hL
      ·rw [DM hm] at e;cases e;simp only [hm,D3,Option.map_some,Addr.add_lit];have:=aG.slice (off:=off+l*s) (len:=h-l) (cap:=m-l) hL;rw [<-Nat.add_assoc] at this;exact this
     |iX hL=>
      rename_i O L;have hm0:m=0:=by omega
      obtain rfl:m=0:=hm0;obtain rfl:h=0:=by omega
      obtain rfl:l=0:=by omega
      rw [DL rfl] at e;cases e;refine ⟨_,run _ _ _ hb,?_⟩;simp only [DY];exact .iX hL
     |yt=>exact absurd rfl hs0
    ·cases e
   ·cases e
  ·split at e
   ·rename_i l h m hb;split at e
    ·rename_i hs;obtain ⟨hs,hs0⟩:=hs;subst hs;cases e;obtain ⟨rfl,rfl,rfl⟩:=jc h1 h2 h3 hb;cases hx with
     |flat h=>simp [flat] at h
     |vq hL hl hc hm' g1 g2=>
      rename_i cap' L;have hb':=zN hc hb;obtain ⟨k1,k2,k3⟩:=uO hl hb;have k3:=k3 rfl;subst k3;refine ⟨_,run _ _ _ hb',?_⟩;by_cases hm:cap'=l
      ·simp only [hm,DY];obtain rfl:m=l:=by omega
       obtain rfl:h=m:=by omega
       rw [H4];exact .iX hL
      ·simp only [hm,D3,Option.map_some,Addr.add_lit];have e1:off+l*s+(m-l)*s=off+m*s:=by rw [F4,<-Nat.add_mul];congr 2;omega
       have e2:off+l*s+(cap'-l)*s=off+cap'*s:=by rw [F4,<-Nat.add_mul];congr 2;omega
       have:=aG.vq (off:=off+l*s) (len:=h-l) (cap:=m-l) (cap':=cap'-l) (s:=s) hL (by omega) (by omega) (by unfold maxLen at hm' |-;omega) (by omega) (by omega);rw [<-Nat.add_assoc] at this;exact this
     |iX hL=>
      rename_i O L;obtain ⟨k1,k2,k3⟩:=uO (DF _) hb;have k3:=k3 rfl;subst k3;obtain rfl:h=0:=by omega
      obtain rfl:l=0:=by omega
      refine ⟨_,run _ _ _ hb,?_⟩;simp only [DY];exact .iX hL
     |yt=>exact absurd rfl hs0
    ·split at e
     ·rename_i hz0;obtain ⟨hz1,hz2,hz3⟩:=hz0;subst hz1 hz2 hz3;cases e;obtain ⟨rfl,rfl,rfl⟩:=jc h1 h2 h3 hb;obtain ⟨k1,k2,k3⟩:=uO (DF _) hb;have k3:=k3 rfl;subst k3;obtain rfl:h=0:=by omega
      obtain rfl:l=0:=by omega
      cases hx with
      |flat h=>simp [flat] at h
      |vq hL hl hc hm' g1 g2=>
       rename_i cap' L;have hb':=zN hc hb;refine ⟨_,run _ _ _ hb',?_⟩;by_cases hm:cap'=0
       ·subst hm;simp only [DY,H4];exact .iX hL
       ·simp only [hm,D3,Option.map_some,Addr.add_lit,GK,Nat.add_zero,Nat.sub_zero];exact .vq hL hl hc hm' g1 g2
      |iX hL=>
       refine ⟨_,run _ _ _ hb,?_⟩;simp only [DY];exact .iX hL
      |yt=>
       refine ⟨_,run _ _ _ hb,?_⟩;simp only [DY];exact .yt
     ·cases e
   ·cases e
 ·exact absurd rfl (hstr _)
 ·cases e
theorem pZ {n size:Nat} {x x' r:Value} {lo hi mx lo' hi' mx':Option Value} (hx:aG μ x x') (h1:sG μ lo lo') (h2:sG μ hi hi') (h3:sG μ mx mx')
  (e:sliceArr n size x lo hi mx=some r) :
  ∃ a l h m,x' = .pointer (some a)/\lo'=lo/\hi'=hi/\mx'=mx/\boundsA n n lo hi mx=some (l,h,m)/\aG μ r (.slice (some (if m=l then a else a.add (l*size))) (h-l) (m-l)):=by
 unfold sliceArr at e;split at e
 ·rename_i b off;split at e
  ·rename_i l h m hb;cases e;obtain ⟨e1,e2,e3⟩:=jc h1 h2 h3 hb;obtain ⟨L,hL,rfl⟩:=kg hx;refine ⟨_,l,h,m,rfl,e1,e2,e3,hb,?_⟩;by_cases hm:m=l
   ·simp only [hm,DY];exact .slice hL
   ·simp only [hm,D3,Addr.add_lit];have:=aG.slice (off:=off+l*size) (len:=h-l) (cap:=m-l) hL;rw [<-Nat.add_assoc] at this;exact this
  ·cases e
 ·cases e
theorem slice_sound {t:TypeId} {x x' r:Value} {lo hi mx lo' hi' mx':Option Value} (hx:aG μ x x') (h1:sG μ lo lo') (h2:sG μ hi hi') (h3:sG μ mx mx') (e:sliceA P t x lo hi mx=some r) :
  ∃ r',(Instr.sliceAt t x' lo' hi' mx').run P w = .ok r' w/\aG μ r r':=by
 unfold sliceA at e;split at e
 ·rename_i n el hu;simp only [DZ] at e;obtain ⟨z,hz,e⟩:=e;obtain ⟨a,l,h,m,rfl,rfl,rfl,rfl,hb,hv⟩:=pZ hx h1 h2 h3 e;exact ⟨_,by simp [Instr.sliceAt,run_underlying hu,Instr.sureAddr,nK (P:=P) (w:=w) hb,cM w hz],hv⟩
 ·rename_i arr hu;split at e
  ·rename_i n el ha;simp only [DZ] at e;obtain ⟨z,hz,e⟩:=e;obtain ⟨a,l,h,m,rfl,rfl,rfl,rfl,hb,hv⟩:=pZ hx h1 h2 h3 e;exact ⟨_,by simp [Instr.sliceAt,Instr.slice,run_underlying hu,run_underlying ha,asAddr,nK (P:=P) (w:=w) hb,cM w hz],hv⟩
  ·cases e
 ·rename_i el hu;split at e
  ·cases e
  ·rename_i hns;simp only [DZ] at e;obtain ⟨z,hz,e⟩:=e;obtain ⟨r',hrun,hv⟩:=Al (P:=P) (w:=w) hu hz hx h1 h2 h3 (fun s h=>hns s h) e;exact ⟨r',by simpa [Instr.sliceAt,run_underlying hu] using hrun,hv⟩
 ·rename_i hu;split at e
  ·rename_i sb;unfold sliceSl at e;simp only at e;split at e
   ·cases e
   ·split at e
    ·rename_i l h m hb;cases e;obtain ⟨rfl,rfl,rfl⟩:=jc h1 h2 h3 hb;rw [hx.bK rfl];exact ⟨_,by simp [Instr.sliceAt,Instr.slice,run_underlying hu,nK (P:=P) (w:=w) hb],.flat rfl⟩
    ·cases e
  ·cases e
 ·cases e
theorem addP_rel {v v' r:Value} {n:Nat} (hv:aG μ v v') (e:aH v n=some r) : ∃ a,v' = .pointer (some a)/\aG μ r (.pointer (some (a.add n))):=by
 unfold aH at e;split at e
 ·rename_i b off;cases e;obtain ⟨L,hL,rfl⟩:=kg hv;refine ⟨_,rfl,?_⟩;rw [Addr.add_lit];have:=aG.ptr (off:=off+n) hL;rw [<-Nat.add_assoc] at this;exact this
 ·cases e
theorem Ax {t:TypeId} {x x' r:Value} {i:Nat} (hx:aG μ x x') (e:fieldAtA P t x i=some r) : ∃ r',(Instr.fieldAt t x' i).run P w = .ok r' w/\aG μ r r':=by
 unfold fieldAtA at e;split at e
 ·rename_i fs hu;split at e
  ·rename_i f hf;split at e
   ·rename_i n hn;split at e
    ·cases e
    ·rename_i h0;obtain ⟨a,rfl,hv⟩:=addP_rel hx e;refine ⟨_,?_,hv⟩;simp [Instr.fieldAt,run_underlying hu,hf,Instr.sureAddr,fieldPlace,cM w hn,h0]
   ·cases e
  ·cases e
 ·cases e
theorem AU {t:TypeId} {x x' ix ix' r:Value} (hx:aG μ x x') (hi:aG μ ix ix') (e:indexAtA P t x ix=some r) : ∃ r',(Instr.indexAt t x' ix').run P w = .ok r' w/\aG μ r r':=by
 unfold indexAtA at e;split at e
 ·rename_i n el hu;simp only [DZ] at e;obtain ⟨z,hz,e⟩:=e;unfold idxA at e;split at e
  ·rename_i k i;rw [hi.int];split at e
   ·rename_i hc;obtain ⟨a,rfl,hv⟩:=addP_rel hx e;refine ⟨_,?_,hv⟩;simp [Instr.indexAt,asIntOf,run_underlying hu,Instr.sureAddr,hc,cM w hz]
   ·cases e
  ·cases e
 ·rename_i el hu;simp only [DZ] at e;obtain ⟨z,hz,e⟩:=e;unfold idxS at e;split at e
  ·rename_i b off sp len cap k i;rw [hi.int];split at e
   ·rename_i hc;cases e;have main : ∀ (L:xK) (c':Nat),μ b=some L->x' = .slice (some ⟨L.blk,L.off+off,none⟩) len c' -> ∃ r',(Instr.indexAt t x' (.int k i)).run P w = .ok r' w/\aG μ (ptr b (off+i.toNat*z)) r':=by
     rintro L c' hL rfl;refine ⟨.pointer (some ⟨L.blk,L.off+off+i.toNat*z,none⟩),?_,?_⟩
     ·simp [Instr.indexAt,asIntOf,run_underlying hu,hc,cM w hz,Addr.add_lit]
     ·have:=aG.ptr (off:=off+i.toNat*z) hL;rw [<-Nat.add_assoc] at this;exact this
    cases hx with
    |flat h=>simp [flat] at h
    |slice h=>exact main _ _ h rfl
    |vq h=>exact main _ _ h rfl
    |iX h=>simp at hc;omega
    |yt=>simp at hc;omega
   ·cases e
  ·cases e
 ·cases e
theorem zB {t:TypeId} {cs cs':Array Value} {off:Nat} {r:Value} (hc:aP μ cs.toList cs'.toList) (e:jq P t cs off=some r) : ∃ r',(part t cs' off).run P w = .ok r' w/\aG μ r r':=by
 unfold jq at e;split at e
 ·rename_i n ha hs;cases e;refine ⟨.agg (cs'.extract off (off+n)),by simp [part,nm w ha,cM w hs],?_⟩;have:=(hc.drop off).take n;have e1:cs.extract off (off+n)=((cs.toList.drop off).take n).toArray:=by apply H3;simp
  have e2:cs'.extract off (off+n)=((cs'.toList.drop off).take n).toArray:=by apply H3;simp
  rw [e1,e2];exact .fS this
 ·rename_i n ha hs;obtain ⟨y,hy,hv⟩:=hc.get (i:=off) (by simpa using e);refine ⟨y,?_,hv⟩;have hy':cs'[off]? = some y:=by simpa using hy
  simp [part,nm w ha,hy']
 ·cases e
theorem field_sound {t:TypeId} {x x' r:Value} {i:Nat} (hx:aG μ x x') (e:fieldA P t x i=some r) : ∃ r',(Instr.field t x' i).run P w = .ok r' w/\aG μ r r':=by
 unfold fieldA at e;split at e
 ·rename_i fs cs hu;split at e
  ·rename_i f hf;obtain ⟨ys,rfl,hl⟩:=hx.xl;obtain ⟨r',hrun,hv⟩:=zB (P:=P) (w:=w) hl e;exact ⟨r',by simp [Instr.field,run_underlying hu,hf,asAgg,hrun],hv⟩
  ·cases e
 ·cases e
theorem index_sound {t:TypeId} {x x' ix ix' r:Value} (hx:aG μ x x') (hi:aG μ ix ix') (e:indexA P t x ix=some r) : ∃ r',(Instr.index t x' ix').run P w = .ok r' w/\aG μ r r':=by
 unfold indexA at e;split at e
 ·rename_i n el cs k i hu;split at e
  ·rename_i hc;simp only [DZ] at e;obtain ⟨z,hz,e⟩:=e;obtain ⟨ys,rfl,hl⟩:=hx.xl;rw [hi.int];obtain ⟨r',hrun,hv⟩:=zB (P:=P) (w:=w) hl e;exact ⟨r',by simp [Instr.index,asIntOf,run_underlying hu,hc,cM w hz,hrun],hv⟩
  ·cases e
 ·rename_i s k i hu;split at e
  ·rename_i hc;simp only [DQ] at e;obtain ⟨b,hb,rfl⟩:=e;rw [hi.int,hx.bK rfl];exact ⟨_,by simp [Instr.index,asIntOf,run_underlying hu,hc,hb],.flat rfl⟩
  ·cases e
 ·cases e
theorem AN {x x' r:Value} {i:Nat} (hx:aG μ x x') (e:extractA x i=some r) : ∃ r',(Instr.extract x' i).run P w = .ok r' w/\aG μ r r':=by
 unfold extractA at e;split at e
 ·rename_i vs;obtain ⟨ys,rfl,hl⟩:=hx.BT;obtain ⟨y,hy,hv⟩:=hl.get (i:=i) (by simpa using e);have hy':ys[i]? = some y:=by simpa using hy
  exact ⟨y,by simp [Instr.extract,hy'],hv⟩
 ·cases e
end ops
end
section
section ops
variable {P:Program} {μ:Mu} {h:ad} {w:World}
theorem sd {size n:Nat} {x x':Value} {cs:List Value} (s:cm μ h w) (hx:aG μ x x') (e:firstA size n x h=some cs) (hn : ∀ m,ie x=some m->n<=m) (P:Program) :
  ∃ cs',(∀ w',w'.heap=w.heap->(Builtin.firstCells size n x').run P w' = .ok cs'.toArray w')/\aP μ cs cs':=by
 cases x with
 |slice a len cap=>
  obtain ⟨cs',h1,h2,_⟩:=nD s hx e (hn len rfl) P;exact ⟨cs',h1,h2⟩
 |string sb=>
  rw [hx.bK rfl];simp only [firstA,DE] at e;subst e;refine ⟨(sb.extract 0 n).data.toList.map fun b => .int .u8 b.toNat,?_,aP.jm (by rw [bJ,DT];intro x hx;obtain ⟨b,_,rfl⟩:=E2.1 hx;rfl)⟩;intro w' _;simp only [Builtin.firstCells,Sem.run_pure]
  congr 1
  apply H3;simp
 |_=>simp [firstA] at e
theorem Bu {x x':Value} {m:Nat} (hx:aG μ x x') (e:ie x=some m):(Builtin.lenOf x').run P w = .ok m w:=by
 cases x with
 |slice a len cap=>
  obtain ⟨a',c',rfl,_⟩:=hx.jn;simp only [ie,DE] at e;subst e;simp [Builtin.lenOf]
 |string sb=>
  rw [hx.bK rfl];simp only [ie,DE] at e;subst e;simp [Builtin.lenOf]
 |_=>simp [ie] at e
theorem me {t tx ty el:TypeId} {i:TypeInfo} {d:TypeDesc} (hu:P.underlying t=some (.slice el)) (hx:P.underlying tx=some d) (hd:oY d=false)
  (hi:P.info? el=some i) {bN:Option Addr} {len cap m:Nat} {x:Value} (hm:(Builtin.lenOf x).run P w = .ok m w) (hc:len+m<=cap)
  {new:List Value} {w':World} (hf:(Builtin.firstCells i.size m x).run P w = .ok new.toArray w)
  (hs : ∀ a,bN=some a->(storeCells (a.add (len*i.size)) new).run P w = .ok () w') (hn:bN=none->w'=w) :
  (Builtin.append_ #[t,tx] ty #[.slice bN len cap,x]).run P w = .ok (.slice bN (len+m) cap) w':=by
 have hz':(match (generalizing:=false) d with | .int _=>true|_=>false)=false:=by cases d<;>first|rfl|(simp [oY] at hd;done)
 have e0:(#[t,tx]:Array TypeId)[0]? = some t:=rfl;have e1:(#[t,tx]:Array TypeId)[1]? = some tx:=rfl;have e2:(#[.slice bN len cap,x]:Array Value)[0]? = some (.slice bN len cap):=rfl;have e3:(#[.slice bN len cap,x]:Array Value)[1]? = some x:=rfl;unfold Builtin.append_;simp only [e0, e1, e2, e3, Sem.run_bind, run_underlying hu, run_underlying hx, Result.andThen_ok, sizeOf, eE w hi, Sem.run_pure];split
 ·exact absurd hd (by simp [oY])
 ·simp only [DD, D3, Sem.run_bind, hm, Result.andThen_ok, DN, DY, false_or, hc, hf];cases bN with
  |none=>simp [hn rfl]
  |some a=>simp [hs a rfl]
theorem zf {t tx ty el:TypeId} {i:TypeInfo} {d:TypeDesc} (hu:P.underlying t=some (.slice el)) (hx:P.underlying tx=some d) (hd:oY d=false)
  (hi:P.info? el=some i) {bN:Option Addr} {len cap m:Nat} {x:Value} (hm:(Builtin.lenOf x).run P w = .ok m w) (hc : ¬len+m<=cap)
  {z:Value} {olds news:List Value} (hz:jM P el=some z)
  (hfo:(Builtin.firstCells i.size len (.slice bN len cap)).run P w.drew = .ok olds.toArray w.drew)
  (hfn:(Builtin.firstCells i.size m x).run P w.drew = .ok news.toArray w.drew)
  (h63:len+m<=4611686018427387904) (hfit:Builtin.nextslicecap (len+m) cap*i.bytes<=281474976710656) :
  (Builtin.append_ #[t,tx] ty #[.slice bN len cap,x]).run P w =
   .ok (.slice (some ⟨w.heap.size,0,none⟩) (len+m) (grownCap w (len+m) cap el))
    { w.drew with heap:=w.heap.push (.cells ((olds++news++(Builtin.zeroCells z.cells (grownCap w (len+m) cap el-(len+m))).toList).toArray) el (0,0)) }:=by
 have hmax:IntKind.i64.max=9223372036854775807:=by decide
 have h1 : ¬(((len+m:Nat):Int)>IntKind.i64.max/\i.bytes=0):=by rw [hmax];omega
 have h2 : ¬(Builtin.nextslicecap (len+m) cap*i.bytes>2^48):=by
  have:(2:Nat)^48=281474976710656:=by decide
  omega
 have hz':(match (generalizing:=false) d with | .int _=>true|_=>false)=false:=by cases d<;>first|rfl|(simp [oY] at hd;done)
 have e0:(#[t,tx]:Array TypeId)[0]? = some t:=rfl;have e1:(#[t,tx]:Array TypeId)[1]? = some tx:=rfl;have e2:(#[.slice bN len cap,x]:Array Value)[0]? = some (.slice bN len cap):=rfl;have e3:(#[.slice bN len cap,x]:Array Value)[1]? = some x:=rfl;unfold Builtin.append_;simp only [e0, e1, e2, e3, Sem.run_bind, run_underlying hu, run_underlying hx, Result.andThen_ok, sizeOf, eE w hi, Sem.run_pure];split
 ·exact absurd hd (by simp [oY])
 ·simp only [DD, D3, Sem.run_bind, hm, Result.andThen_ok, DN, DY, false_or, hc, eE w hi];rw [DM h1];simp only [Sem.run_bind,eE w hi,Result.andThen_ok];rw [DM h2];simp only [Sem.run_bind,Sem.run_pure,Result.andThen_ok,run_choose,Question.forced,DD,D3,run_askRoom];have hdr:({ w with drawn:=w.drawn+1 }:World)=w.drew:=rfl;rw [hdr];simp only [eE w.drew hi, Result.andThen_ok];rw [hfo];simp only [Result.andThen_ok];rw [hfn];simp only [Result.andThen_ok,fD w.drew hz,Go.newRow,Sem.run_bind,run_newObj,Sem.run_pure,grownCap];have:olds.toArray++news.toArray++Builtin.zeroCells z.cells ((Question.appendCap (len+m) cap el).cut (w.tape w.drawn (Question.appendCap (len+m) cap el))-(len+m)) =
    (olds++news++(Builtin.zeroCells z.cells ((Question.appendCap (len+m) cap el).cut (w.tape w.drawn (Question.appendCap (len+m) cap el))-(len+m))).toList).toArray:=by
   apply H3;simp
  rw [this];rfl
theorem grow_sound {z:Value} {size c:Nat} {el:TypeId} {olds news olds' news':List Value} {n:Nat} (s:cm μ h w) (hf:fh μ h (h.alloc (olds++news))) (ho:aP μ olds olds') (hn:aP μ news news')
  (hzs:z.cells.size=size) (_:0<size) (hlen:olds.length+news.length=n*size) (hc:n<=c) (hcm:c<=maxLen) :
  ∃ μ' w',w'={ w.drew with heap:=w.heap.push (.cells ((olds'++news'++(Builtin.zeroCells z.cells (c-n)).toList).toArray) el (0,0)) } /\
    cm μ' (h.alloc (olds++news)) w'/\cd μ h w μ' (h.alloc (olds++news)) w'/\aG μ' (.slice (some ⟨h.next,0,some size⟩) n n) (.slice (some ⟨w.heap.size,0,none⟩) n c):=by
 have hl:=ho.1;have hl':=hn.1;have hzc:(Builtin.zeroCells z.cells (c-n)).size=(c-n)*size:=by rw [size_zeroCells,hzs]
 have hsz:((olds'++news'++(Builtin.zeroCells z.cells (c-n)).toList).toArray).size=c*size:=by
  simp only [FI,DH,Array.length_toList,hzc,<-hl,<-hl',hlen,<-Nat.add_mul]
  congr 1;omega
 have hnc:n*size<=c*size:=F0 _ hc;obtain ⟨hS,hSt⟩:=s.alloc (k:=olds++news) hf (arr:=(olds'++news'++(Builtin.zeroCells z.cells (c-n)).toList).toArray) (T:=el) (fr:=(0,0)) (.inl rfl)
  (by rw [hsz,DH,hlen];exact hnc)
  (by
   have:(olds++news).length=(olds'++news').length:=by simp [hl,hl']
   rw [this,IW];exact ho.append hn)
  (w1:={ w.drew with heap:=w.heap.push (.cells ((olds'++news'++(Builtin.zeroCells z.cells (c-n)).toList).toArray) el (0,0)) }) rfl rfl rfl rfl
 refine ⟨_,_,rfl,hS,hSt,?_⟩;have:=aG.vq (b:=h.next) (off:=0) (len:=n) (cap:=n) (cap':=c) (s:=size) (Mu.cj μ h.next ⟨w.heap.size,0,((olds'++news'++(Builtin.zeroCells z.cells (c-n)).toList).toArray).size,(olds++news).length⟩) (DF _) hc hcm
  (by simp only [DH,hlen,DG]) (by simp only [hsz];omega)
 simpa using this
theorem cm.regrow {b off n1:Nat} {k:iM} {L:xK} {news news':List Value} (s:cm μ h w) (hb:h.n0<=b) (hg:h.get b=some k) (hL:μ b=some L) (h1:off+n1<=k.length)
  (hx:aP μ news news') (hone:aJ news=true) (hext:L.off+off+n1+news.length<=L.ext) (hf:fh μ h ((h.kill b).alloc ((k.drop off).take n1++news))) :
  ∃ μ' w',(Go.storeCells ⟨L.blk,L.off+off+n1,none⟩ news').run P w = .ok () w'/\cm μ' ((h.kill b).alloc ((k.drop off).take n1++news)) w'/\cd μ h w μ' ((h.kill b).alloc ((k.drop off).take n1++news)) w' /\
    μ' h.next=some ⟨L.blk,L.off+off,L.ext,n1+news.length⟩:=by
 obtain ⟨L',arr,T,fr,e1,e2,e4,e5,e6,e7,e8,e9⟩:=s.new b k hb hg;rw [hL] at e1;cases e1;have hal:arr.toList.length=arr.size:=Array.length_toList;have hlt:=h.aO hg;have hnl:news'.length=news.length:=hx.1.symm;have hnone:μ h.next=none:=hf _ (DF _) (by simp);have hm:=Mu.jA (L:=⟨L.blk,L.off+off,L.ext,n1+news.length⟩) hnone;have hget : ∀ c kc,((h.kill b).alloc ((k.drop off).take n1++news)).get c=some kc->(c=h.next/\kc=(k.drop off).take n1++news)\/(c≠h.next/\c≠b/\h.get c=some kc):=by
  intro c kc hc;rw [ad.aF,ad.gh] at hc;by_cases ec:c=h.next
  ·rw [DL ec] at hc;cases hc;exact .inl ⟨ec,rfl⟩
  ·rw [DM ec] at hc;unfold ad.kill at hc;rw [h.xM hb hlt] at hc;by_cases eb:c=b
   ·rw [DL eb] at hc;cases hc
   ·rw [DM eb] at hc;exact .inr ⟨ec,eb,hc⟩
 have hgetB : ∀ c kc,((h.kill b).alloc ((k.drop off).take n1++news)).getB c=some kc->(c=h.next/\kc = .cells ((k.drop off).take n1++news))\/(c≠h.next/\c≠b/\h.getB c=some kc):=by
  intro c kc hc;rw [ad.cF,ad.gh] at hc;by_cases ec:c=h.next
  ·rw [DL ec] at hc;cases hc;exact .inl ⟨ec,rfl⟩
  ·rw [DM ec] at hc;unfold ad.kill at hc;rw [h.cP hb hlt] at hc;by_cases eb:c=b
   ·rw [DL eb] at hc;cases hc
   ·rw [DM eb] at hc;exact .inr ⟨ec,eb,hc⟩
 have hB:(w.setRow L.blk (splice arr.toList (L.off+off+n1) news').toArray).heap[L.blk]? = some (.cells (splice arr.toList (L.off+off+n1) news').toArray T fr):=setRow_heap w L.blk arr _ T fr e4;have hsz:((splice arr.toList (L.off+off+n1) news').toArray).size=arr.size:=by rw [FI,jk (by omega),hal]
 refine ⟨μ.put h.next ⟨L.blk,L.off+off,L.ext,n1+news.length⟩,w.setRow L.blk (splice arr.toList (L.off+off+n1) news').toArray,?_,⟨?_,?_,?_,?_,?_,fun b hb=>by obtain ⟨L,h1,h2⟩:=s.low b hb;exact ⟨L,hm _ _ h1,h2⟩⟩,⟨?_,rfl,rfl,by simp,rfl,rfl,rfl,by simp [World.setRow],?_,?_,fun B r hB=>⟨r,by rw [setRow_other _ _ _ _ (by rintro rfl;rw [e4] at hB;cases hB)];exact hB⟩,DF _⟩,Mu.cj _ _ _⟩
 ·have:=eW P L.blk (L.off+off+n1) T fr news' 0 arr w e4 e7 (by omega) (hx.aJ hone);simpa using this
 ·intro c cs hc hcs;obtain ⟨L2,a2,T2,f2,g1,g2,g3,g4,g5⟩:=s.old c cs (by simpa using hc) hcs;refine ⟨L2,a2,T2,f2,hm _ _ g1,g2,g3,?_,g5.mono hm⟩;rw [setRow_other _ _ _ _ (by simp at hc;omega)];exact g4
 ·intro c kc hc hgc;rcases hget c kc hgc with ⟨rfl,rfl⟩|⟨n1',n2',hgc'⟩
  ·refine ⟨_,_,T,fr,Mu.cj _ _ _,?_,hB,hsz.trans e5,?_,by rw [hsz];exact e7,by simpa using e8,?_⟩
   ·simp only [DH,DW,D8];omega
   ·simp only;omega
   ·simp only;have hr:=(e9.drop off).take n1;rw [HY,E8,HI,show min n1 (L.len-off)=n1 from by omega] at hr;have:((splice arr.toList (L.off+off+n1) news').drop (L.off+off)).take (n1+news.length)=(arr.toList.drop (L.off+off)).take n1++news':=by
     unfold splice;have e1:(arr.toList.take (L.off+off+n1)).drop (L.off+off)=(arr.toList.drop (L.off+off)).take n1:=by rw [HY];congr 1;omega
     rw [EC,GA (by simp;omega),e1,<-List.append_assoc];exact HC (by simp;omega)
    rw [this];exact (hr.append hx).mono hm
  ·obtain ⟨L2,a2,T2,f2,g1,g2,g4,g5,g6,g7,g8,g9⟩:=s.new c kc hc hgc';refine ⟨L2,a2,T2,f2,hm _ _ g1,g2,?_,g5,g6,g7,g8,g9.mono hm⟩;rw [setRow_other _ _ _ _ (s.inj c b _ _ L2 L hc hb n2' (h.bg hgc') (h.bg hg) g1 hL)];exact g4
 ·intro c o hc hgc;rcases hgetB c _ hgc with ⟨rfl,e⟩|⟨n1',n2',hgc'⟩
  ·cases e
  ·obtain ⟨L2,ob,g1,g2,g3,g4⟩:=s.obj c o hc hgc';exact ⟨L2,ob,hm _ _ g1,by rw [setRow_other _ _ _ _ (s.inj c b _ _ L2 L hc hb n2' hgc' (h.bg hg) g1 hL)];exact g2,g3.mono hm,g4⟩
 ·intro c c' kc kc' Lc Lc' hc hc' hne hgc hgc' h2 h3;have hg:=h.bg hg;rcases hgetB c kc hgc with ⟨rfl,rfl⟩|⟨n1',n2',g1⟩
  ·rw [Mu.cj] at h2;cases h2;rcases hgetB c' kc' hgc' with ⟨rfl,rfl⟩|⟨m1,m2,g2⟩
   ·exact absurd rfl hne
   ·rw [Mu.cN _ _ m1] at h3;exact s.inj b c' _ kc' L Lc' hb hc' (JG m2) hg g2 hL h3
  ·rw [Mu.cN _ _ n1'] at h2;rcases hgetB c' kc' hgc' with ⟨rfl,rfl⟩|⟨m1,m2,g2⟩
   ·rw [Mu.cj] at h3;cases h3;exact s.inj c b kc _ Lc L hc hb n2' g1 hg h2 hL
   ·rw [Mu.cN _ _ m1] at h3;exact s.inj c c' kc kc' Lc Lc' hc hc' hne g1 g2 h2 h3
 ·simpa [World.setRow] using s.size
 ·intro c hc;rw [Mu.cN _ _ (by simp at hc;omega)]
 ·intro B hB' hO;exact setRow_other _ _ _ _ (fun e=>hO ⟨b,_,L,hb,h.bg hg,hL,e.symm⟩)
 ·rintro B ⟨c,kc,Lc,hc,hgc,h2,rfl⟩;rcases hgetB c kc hgc with ⟨rfl,rfl⟩|⟨n1',n2',g1⟩
  ·rw [Mu.cj] at h2;cases h2;exact .inl ⟨b,_,L,hb,h.bg hg,hL,rfl⟩
  ·rw [Mu.cN _ _ n1'] at h2;exact .inl ⟨c,kc,Lc,hc,g1,h2,rfl⟩
theorem CJ {t tx ty el:TypeId} {d:TypeDesc} {size oC:Nat} {z s s' x x' r:Value} {h':ad} (hu:P.underlying t=some (.slice el)) (htx:P.underlying tx=some d) (hd:oY d=false)
  (hsz:cK P el=some size) (hby:yW P el=some oC) (hz:jM P el=some z) (hzs:z.cells.size=size) (hpos:0<size)
  (S:cm μ h w) (hf:fh μ h h') (hs:aG μ s s') (hx:aG μ x x') (e:appendA size oC s x h=some (r,h')) :
  ∃ μ' r' w',(Builtin.append_ #[t,tx] ty #[s',x']).run P w = .ok r' w'/\cm μ' h' w'/\cd μ h w μ' h' w'/\aG μ' r r':=by
 obtain ⟨i,hi,hin⟩:=mj hsz;have hib:i.bytes=oC:=by simp only [yW,hi,Option.map_some,DE] at hby;exact hby
 subst hin hib;unfold appendA at e;split at e
 ·rename_i bN len cap m hm;have hlen:=Bu (P:=P) (w:=w) hx hm;split at e
  ·cases e
  ·rename_i news hnews;split at e
   ·cases e
   ·rename_i hcond;simp only [FH,FK,DR,not_or,Bool.not_eq_false,FM,IT,ne_eq] at hcond;obtain ⟨⟨⟨hone,hbytes⟩,h62⟩,hnl⟩:=hcond;have hle : ∀ m',ie x=some m'->m<=m':=by intro m' h;rw [hm] at h;cases h;exact DF _
    obtain ⟨news',hrn,hrel⟩:=sd S hx hnews hle P;have place : ∀ {b off:Nat} {h1:ad} {L:xK} {c':Nat},μ b=some L->stL b (off+len*i.size) news h=some h1->s' = .slice (some ⟨L.blk,L.off+off,none⟩) len c'->len+m<=c' ->
      ∃ w',(Builtin.append_ #[t,tx] ty #[s',x']).run P w = .ok (.slice (some ⟨L.blk,L.off+off,none⟩) (len+m) c') w'/\cm μ h1 w'/\cd μ h w μ h1 w':=by
     intro b off h1 L c' hL hst hs' hc;subst hs';obtain ⟨L',w',hL',hrun,hS,hSt⟩:=qt (P:=P) S hrel hst;rw [hL] at hL';cases hL';refine ⟨w',me hu htx hd hi hlen hc (hrn w rfl) ?_ (by intro h;cases h),hS,hSt⟩;intro a ha;cases ha;rw [Addr.add_lit,F4];exact hrun
    have grow : ∀ {olds olds':List Value} {h1:ad} {base':Option Addr} {c':Nat},cm μ h1 w->fh μ h1 (h1.alloc (olds++news))->olds.length=len*i.size->aP μ olds olds' ->
      (∀ w',w'.heap=w.heap->(Builtin.firstCells i.size len (.slice base' len c')).run P w' = .ok olds'.toArray w')->s' = .slice base' len c' -> ¬len+m<=c' ->
      ∃ μ' r' w',(Builtin.append_ #[t,tx] ty #[s',x']).run P w = .ok r' w'/\cm μ' (h1.alloc (olds++news)) w'/\cd μ h1 w μ' (h1.alloc (olds++news)) w' /\
        aG μ' (.slice (some ⟨h1.next,0,some i.size⟩) (len+m) (len+m)) r':=by
     intro olds olds' h1 base' c' S1 hf1 hol horel hro hs' hc;subst hs';have hfit:Builtin.nextslicecap (len+m) c'*i.bytes<=281474976710656:=growslice_fits (by omega) hbytes;have hrun:=zf (ty:=ty) hu htx hd hi hlen hc hz (hro w.drew rfl) (hrn w.drew rfl) h62 hfit;obtain ⟨μ',w',hw',hS,hSt,hv⟩:=grow_sound (z:=z) (size:=i.size) (c:=grownCap w (len+m) c' el) (el:=el) (n:=len+m) S1 hf1 horel hrel hzs hpos
      (by rw [hol,hnl,GY]) (grownCap_ge w (len+m) c' el) (grownCap_le_maxLen w (len+m) c' el (by unfold maxLen;omega))
     exact ⟨μ',_,w',by rw [hrun,hw'],hS,hSt,hv⟩
    split at e
    ·rename_i hroom;split at e
     ·rename_i hm0;subst hm0;cases e;have hn0:news' = []:=by have:=hrel.1;simp only [hnl,GK] at this;exact GB this.symm
      subst hn0;have fin : ∀ (b':Option Addr) (c':Nat),s' = .slice b' len c'->cap<=c' -> ∃ μ' r' w',(Builtin.append_ #[t,tx] ty #[s',x']).run P w = .ok r' w'/\cm μ' h w'/\cd μ h w μ' h w'/\aG μ' (.slice bN len cap) r':=by rintro b' c' rfl hc;refine ⟨μ,.slice b' (len+0) c',w,me hu htx hd hi hlen (by omega) (hrn w rfl) (fun a _=>rfl) (fun _=>rfl),S,.bU,hs⟩
      cases hs with
      |flat h=>exact fin _ _ rfl (DF _)
      |slice h=>exact fin _ _ rfl (DF _)
      |vq h _ hc=>exact fin _ _ rfl hc
      |iX h=>exact fin _ _ rfl (DF _)
      |yt=>exact fin _ _ rfl (DF _)
     ·rename_i hm0;split at e
      ·rename_i b off sp;simp only [DQ,DO] at e;obtain ⟨h1,hst,rfl,rfl⟩:=e;cases hs with
       |flat h=>simp [flat] at h
       |slice hL=>
        obtain ⟨w',hrun,hS,hSt⟩:=place hL hst rfl hroom;exact ⟨μ,_,w',hrun,hS,hSt,.slice hL⟩
       |vq hL hl hc hmx g1 g2=>
        obtain ⟨w',hrun,hS,hSt⟩:=place hL hst rfl (by omega);exact ⟨μ,_,w',hrun,hS,hSt,.vq hL hroom hc hmx g1 g2⟩
       |iX hL=>omega
       |yt=>omega
      ·cases e
    ·rename_i hroom;split at e
     ·split at e
      ·rename_i h0;subst h0;simp only [DE,DO] at e;obtain ⟨rfl,rfl⟩:=e;have hs':=hs.bK rfl;have:=grow (olds := []) (olds' := []) (h1:=h) S (by simpa using hf) (by simp) (aP.nil μ) (by intro w' _;simp [Builtin.firstCells]) hs' hroom;simpa using this
      ·cases e
     ·rename_i b off sp;split at e
      ·cases e
      ·rename_i olds holds;split at e
       ·cases e
       ·rename_i hol;have hol':olds.length=len*i.size:=IT.1 hol;obtain ⟨olds',hro,horel⟩:=sd S hs holds (by intro m' h;cases h;exact DF _) P;split at e
        ·simp only [DE,DO] at e;obtain ⟨rfl,rfl⟩:=e;cases hs with
         |flat h=>simp [flat] at h
         |slice hL=>exact grow S hf hol' horel hro rfl hroom
        ·rename_i zz;split at e
         ·rename_i hc;simp only [DJ,DR] at hc;obtain ⟨⟨rfl,hb⟩,hlive⟩:=hc;obtain ⟨k,hk⟩:=FQ.1 hlive;simp only [DE,DO] at e;obtain ⟨rfl,rfl⟩:=e;obtain ⟨S1,St1⟩:=S.kill hb (h.aO hk);have hf1:fh μ (h.kill b) ((h.kill b).alloc (olds++news)):=hf;generalize hq:i.size=q at hs;cases hs with
          |flat h=>simp [flat] at h
          |yt=>omega
          |vq hL hl hc hmx g1 g2=>
           rename_i cap' L;subst hq;by_cases hin:len+m<=cap'
           ·have hkl:L.len=k.length:=by obtain ⟨L',arr,T,fr,e1,e2,_⟩:=S.new b k hb hk;rw [hL] at e1;cases e1;exact e2
            have hls:len*i.size<=cap*i.size:=F0 _ hl;have hms:(len+m)*i.size<=cap'*i.size:=F0 _ hin;have hadd:(len+m)*i.size=len*i.size+m*i.size:=GY _ _ _;have holds':olds=(k.drop off).take (len*i.size):=by
             unfold firstA at holds;simp only [hk] at holds;split at holds
             ·rename_i h0;cases holds;rw [h0];rfl
             ·split at holds
              ·cases holds;rfl
              ·cases holds
            subst holds';obtain ⟨μ',w',hrun,hS,hSt,hμ⟩:=S.regrow (P:=P) (off:=off) (n1:=len*i.size) hb hk hL (by omega) hrel hone (by omega) hf;refine ⟨μ',.slice (some ⟨L.blk,L.off+off,none⟩) (len+m) cap',w',me hu htx hd hi hlen hin (hrn w rfl) ?_ (by intro h;cases h),hS,hSt,?_⟩
            ·intro a ha;cases ha;rw [Addr.add_lit];exact hrun
            ·have:=aG.vq (μ:=μ') (b:=h.next) (off:=0) (len:=len+m) (cap:=len+m) (cap':=cap') (s:=i.size) hμ (DF _) hin hmx (by simp only;omega) (by simp only;omega);simpa using this
           ·obtain ⟨μ',r',w',hrun,hS,hSt,hv⟩:=grow S1 hf1 hol' horel hro rfl hin;exact ⟨μ',r',w',hrun,hS,St1.trans hSt,hv⟩
          |iX hL=>
           subst hq;obtain ⟨μ',r',w',hrun,hS,hSt,hv⟩:=grow S1 hf1 hol' horel hro rfl (by omega);exact ⟨μ',r',w',hrun,hS,St1.trans hSt,hv⟩
         ·cases e
 ·cases e
theorem copy_sound {dT sT ty el:TypeId} {size:Nat} {d d' s s' r:Value} {h':ad} (hu:P.underlying dT=some (.slice el)) (hsz:cK P el=some size)
  (S:cm μ h w) (hd:aG μ d d') (hs:aG μ s s') (e:sX size d s h=some (r,h')) :
  ∃ w',(Builtin.copy_ #[dT,sT] ty #[d',s']).run P w = .ok r w'/\cm μ h' w'/\cd μ h w μ h' w' /\ ∃ n:Nat,r = .int .i64 n:=by
 unfold sX at e;split at e
 ·rename_i bN dLen dCap m hm;have hlen:=Bu (P:=P) (w:=w) hs hm;simp only at e;split at e
  ·cases e
  ·rename_i news hnews;obtain ⟨news',hrn,hrel⟩:=sd S hs hnews (by intro m' h;rw [hm] at h;cases h;exact Nat.min_le_left _ _) P;obtain ⟨b',c',rfl,hb'⟩:=hd.jn;have head : ∀ w',(∀ a,b'=some a->(storeCells a news').run P w = .ok () w')->(b'=none->w'=w) ->
     (Builtin.copy_ #[dT,sT] ty #[.slice b' dLen c',s']).run P w = .ok (.int .i64 (min m dLen:Nat)) w':=by
    intro w' hs hn;have e0:(#[dT,sT]:Array TypeId)[0]? = some dT:=rfl;have e2:(#[.slice b' dLen c',s']:Array Value)[0]? = some (.slice b' dLen c'):=rfl;have e3:(#[.slice b' dLen c',s']:Array Value)[1]? = some s':=rfl;unfold Builtin.copy_;simp only [e0,e2,e3,Sem.run_bind,run_underlying hu,Result.andThen_ok,hlen,cM w hsz,Nat.min_def];have hrn0:=hrn w rfl;rw [Nat.min_def] at hrn0;rw [hrn0];cases b' with
    |none=>simp [hn rfl,goInt]
    |some a=>simp [hs a rfl,goInt]
   split at e
   ·rename_i h0;cases e;have hn0:news' = []:=by
     have h1:=hrel.1;have:news = []:=by
      unfold firstA at hnews;rw [h0] at hnews;split at hnews
      ·simpa using hnews.symm
      ·simpa using hnews.symm
      ·simp only [DE] at hnews;rw [<-hnews];simp
      ·cases hnews
     subst this;exact GB h1.symm
    subst hn0;exact ⟨w,head w (fun _ _=>rfl) (fun _=>rfl),S,.bU,_,rfl⟩
   ·rename_i h0;split at e
    ·cases e
    ·rename_i b off sp;simp only [DQ,DO] at e;obtain ⟨h1,hst,rfl,rfl⟩:=e;obtain ⟨L,w',hL,hrun,hS,hSt⟩:=qt (P:=P) S hrel hst;have hb2:b'=some ⟨L.blk,L.off+off,none⟩:=by
      cases hd with
      |flat h=>simp [flat] at h
      |slice h=>rw [h] at hL;cases hL;rfl
      |vq h=>rw [h] at hL;cases hL;rfl
      |iX h=>simp at h0
      |yt=>simp at h0
     refine ⟨w',head w' ?_ (by intro h;rw [hb2] at h;cases h),hS,hSt,_,rfl⟩;intro a ha;rw [hb2] at ha;cases ha;exact hrun
 ·cases e
theorem clear_sound {t ty el:TypeId} {size:Nat} {d d' r:Value} {h':ad} (hu:P.underlying t=some (.slice el))
  (S:cm μ h w) (hd:aG μ d d') (e:clearA P el size d h=some (r,h')) :
  ∃ w',(Builtin.clear_ #[t] ty #[d']).run P w = .ok r w'/\cm μ h' w'/\cd μ h w μ h' w'/\r=undef:=by
 have e0:(#[t]:Array TypeId)[0]? = some t:=rfl;have e2 : ∀ v:Value,(#[v]:Array Value)[0]? = some v:=fun _=>rfl;unfold clearA at e;split at e
 ·cases e;rw [hd.bK rfl];refine ⟨w,?_,S,.bU,rfl⟩;simp [Builtin.clear_,run_underlying hu,undef]
 ·rename_i b off sp n c;split at e
  ·rename_i h0;subst h0;cases e;obtain ⟨b',c',rfl,hb'⟩:=hd.jn;refine ⟨w,?_,S,.bU,rfl⟩;cases b'<;>simp [Builtin.clear_,run_underlying hu,undef]
  ·rename_i h0;split at e
   ·rename_i z hz;split at e
    ·rename_i hc;simp only [DJ,DR] at hc;obtain ⟨⟨hfl,hzn⟩,hpos⟩:=hc;simp only [DQ,DO] at e;obtain ⟨h1,hst,rfl,rfl⟩:=e;have hzz:(Builtin.zeroCells z.cells n).toList=cU z.cells.toList n:=by rw [<-lK z.cells (by omega)];simp [Builtin.zeroCells]
     obtain ⟨L,w',hL,hrun,hS,hSt⟩:=qt (P:=P) S (aP.jm (μ:=μ) (l:=cU z.cells.toList n) (by simp only [bJ,DT,cU,GQ] at hfl |-;rintro x ⟨_,_,hx⟩;exact hfl x hx)) hst
     have hb2 : ∃ c',d' = .slice (some ⟨L.blk,L.off+off,none⟩) n c':=by
      cases hd with
      |flat h=>simp [flat] at h
      |slice h=>rw [h] at hL;cases hL;exact ⟨_,rfl⟩
      |vq h=>rw [h] at hL;cases hL;exact ⟨_,rfl⟩
      |iX h=>exact absurd rfl h0
      |yt=>exact absurd rfl h0
     obtain ⟨c',rfl⟩:=hb2;refine ⟨w',?_,hS,hSt,rfl⟩;obtain ⟨n,rfl⟩ : ∃ n',n=n'+1:=⟨n-1,by omega⟩
     unfold Builtin.clear_;simp only [e0,e2,Sem.run_bind,run_underlying hu,Result.andThen_ok,fD w hz,hzz,hrun,Sem.run_pure];rfl
    ·cases e
   ·cases e
 ·cases e
theorem len_sound {t ty:TypeId} {x x' r:Value} (hx:aG μ x x') (e:lenOfT P t x=some r):(Builtin.len_ #[t] ty #[x']).run P w = .ok r w/\flat r=true:=by
 unfold lenOfT at e;split at e
 ·rename_i hu;cases e;rw [hx.bK rfl];exact ⟨by simp [Builtin.len_,run_underlying hu,goInt],rfl⟩
 ·rename_i n el _ _ hu;cases e;exact ⟨by simp [Builtin.len_,run_underlying hu,goInt],rfl⟩
 ·rename_i arr hu;split at e
  ·rename_i ha;cases e;exact ⟨by simp [Builtin.len_,run_underlying hu,run_underlying ha,goInt],rfl⟩
  ·cases e
 ·rename_i hu;cases e;obtain ⟨b',c',rfl,_⟩:=hx.jn;exact ⟨by simp [Builtin.len_,run_underlying hu,goInt],rfl⟩
 ·cases e
theorem max_fold : ∀ (l:List Value) (v r:Value),minmax true v l=some r->(l.foldlM Builtin.max2 v).run P w = .ok r w/\(bJ l=true->flat v=true->flat r=true)
 | [],v,r,e=>by cases e;exact ⟨rfl,fun _ h=>h⟩
 |x::l,v,r,e=>by
  unfold minmax at e;split at e
  ·rename_i h;cases h
  ·rename_i k a k' b cI heq;cases heq;split at e
   ·rename_i hk;subst hk;obtain ⟨h1,h2⟩:=max_fold l _ r e;refine ⟨?_,fun hl _=>h2 ?_ rfl⟩
    ·simp only [List.foldlM_cons,Sem.run_bind,Builtin.max2,Sem.run_pure,Result.andThen_ok];simpa using h1
    ·simp only [bJ,List.all_cons,DJ] at hl |-;exact hl.2
   ·cases e
  ·cases e
theorem min_fold : ∀ (l:List Value) (v r:Value),minmax false v l=some r->(l.foldlM Builtin.min2 v).run P w = .ok r w/\(bJ l=true->flat v=true->flat r=true)
 | [],v,r,e=>by cases e;exact ⟨rfl,fun _ h=>h⟩
 |x::l,v,r,e=>by
  unfold minmax at e;split at e
  ·rename_i h;cases h
  ·rename_i k a k' b cI heq;cases heq;split at e
   ·rename_i hk;subst hk;obtain ⟨h1,h2⟩:=min_fold l _ r e;refine ⟨?_,fun hl _=>h2 ?_ rfl⟩
    ·simp only [List.foldlM_cons,Sem.run_bind,Builtin.min2,Sem.run_pure,Result.andThen_ok];simpa using h1
    ·simp only [bJ,List.all_cons,DJ] at hl |-;exact hl.2
   ·cases e
  ·cases e
theorem oQ : ∀ {mx:Bool} {l:List Value} {v r:Value},minmax mx v l=some r->l ≠ []->bJ (v::l)=true/\flat r=true
 |mx,[],v,r,e,h=>absurd rfl h
 |mx,x::l,v,r,e,_=>by
  unfold minmax at e;split at e
  ·rename_i h;cases h
  ·rename_i k a k' b cI heq;cases heq;split at e
   ·cases l with
    |nil=>cases e;exact ⟨rfl,rfl⟩
    |cons y l=>
     obtain ⟨h1,h2⟩:=oQ e (by simp);simp only [bJ,List.all_cons,DJ] at h1 |-;exact ⟨⟨rfl,rfl,h1.2⟩,h2⟩
   ·cases e
  ·cases e
end ops
end
section
def bdF (n:Nat):Fn->Bool
 | .yield l=>decide (l<n)
 |_=>true
theorem bdF_mono {n m:Nat} (h:n<=m) {f:Fn} (e:bdF n f=true):bdF m f=true:=by
 cases f with
 |yield l=>simp only [bdF,DR] at e |-;omega
 |_=>rfl
mutual
def bW (n:Nat):Value->Bool
 | .pointer (some a)=>a.block<n
 | .slice (some a) _ _=>a.block<n
 | .map (some b)=>b<n
 | .agg ⟨l⟩=>cL n l
 | .tuple ⟨l⟩=>cL n l
 | .func f ⟨l⟩ ⟨r⟩=>bdF n f&&(cL n l&&cL n r)
 | .iface _ v=>bW n v
 |_=>true
def cL (n:Nat):List Value->Bool
 | []=>true
 |v::l=>bW n v&&cL n l
end
theorem dH {n:Nat} : ∀ {l:List Value},cL n l=true ↔ ∀ x∈l,bW n x=true
 | []=>by simp [cL]
 |v::l=>by simp [cL,dH (l:=l)]
mutual
theorem tA {n m:Nat} (h:n<=m) : ∀ {v:Value},bW n v=true->bW m v=true
 | .pointer none,_=>rfl
 | .pointer (some a),e=>by simp only [bW,DR] at e |-;omega
 | .slice none _ _,_=>rfl
 | .slice (some a) _ _,e=>by simp only [bW,DR] at e |-;omega
 | .map none,_=>rfl
 | .map (some _),e=>by simp only [bW,DR] at e |-;omega
 | .chan none,_=>rfl
 | .chan (some _),e=>rfl
 | .agg ⟨l⟩,e=>by simp only [bW] at e |-;exact bS h e
 | .tuple ⟨l⟩,e=>by simp only [bW] at e |-;exact bS h e
 | .func _ ⟨l⟩ ⟨r⟩,e=>by simp only [bW,DJ] at e |-;exact ⟨bdF_mono h e.1,bS h e.2.1,bS h e.2.2⟩
 | .iface _ v,e=>by simp only [bW] at e |-;exact tA h e
 | .bool _,_=>rfl
 | .int _ _,_=>rfl
 | .float _ _,_=>rfl
 | .complex _ _ _,_=>rfl
 | .string _,_=>rfl
 | .nilFunc,_=>rfl
 | .nilIface,_=>rfl
theorem bS {n m:Nat} (h:n<=m) : ∀ {l:List Value},cL n l=true->cL m l=true
 | [],_=>rfl
 |v::l,e=>by simp only [cL,DJ] at e |-;exact ⟨tA h e.1,bS h e.2⟩
end
theorem jt {n:Nat} {v:Value} (h:flat v=true):bW n v=true:=by
 cases v with
 |pointer a=>cases a<;>first|rfl|(simp [flat] at h)
 |slice a=>cases a<;>first|rfl|(simp [flat] at h)
 |map a=>cases a<;>first|rfl|(simp [flat] at h)
 |chan a=>cases a<;>first|rfl|(simp [flat] at h)
 |func f a b=>
  cases f<;>simp [flat] at h;obtain ⟨rfl,rfl⟩:=h;rfl
 |agg a=>simp [flat] at h
 |tuple a=>simp [flat] at h
 |iface t v=>simp [flat] at h
 |_=>rfl
theorem dV {n:Nat} {l:List Value} (h:bJ l=true):cL n l=true:=dH.2 fun x hx=>jt (DT.1 h x hx)
theorem bV {n:Nat} {a b:List Value} (ha:cL n a=true) (hb:cL n b=true):cL n (a++b)=true:=by
 rw [dH] at *;intro x hx;rcases D9.1 hx with h|h
 ·exact ha x h
 ·exact hb x h
theorem uu {n k:Nat} {a:List Value} (ha:cL n a=true):cL n (a.take k)=true:=by rw [dH] at *;exact fun x hx=>ha x (EZ hx)
theorem uj {n k:Nat} {a:List Value} (ha:cL n a=true):cL n (a.drop k)=true:=by rw [dH] at *;exact fun x hx=>ha x (FV hx)
theorem yD {n off:Nat} {a b:List Value} (ha:cL n a=true) (hb:cL n b=true):cL n (splice a off b)=true:=
 bV (bV (uu ha) hb) (uj ha)
theorem jR {n i:Nat} {a:List Value} {x:Value} (ha:cL n a=true) (hx:a[i]? = some x):bW n x=true:=dH.1 ha x (EY hx)
theorem bdL_set {n i:Nat} {a:List Value} {x:Value} (ha:cL n a=true) (hx:bW n x=true):cL n (a.set i x)=true:=by
 rw [dH] at *;intro y hy;rcases GL hy with h|h
 ·exact ha y h
 ·subst h;exact hx
theorem bdL_getD {n i:Nat} {a:List Value} (ha:cL n a=true):bW n (a.getD i undef)=true:=by
 rw [DK];cases h:a[i]? with
 |none=>rfl
 |some x=>exact jR ha h
theorem iL {n:Nat} {a:Array Value}:bW n (.agg a)=cL n a.toList:=by obtain ⟨l⟩:=a;rfl
theorem BG {n:Nat} {a:Array Value}:bW n (.tuple a)=cL n a.toList:=by obtain ⟨l⟩:=a;rfl
theorem uJ {n:Nat} {v:Value} (h:bW n v=true):cL n v.cells.toList=true:=by
 cases v with
 |agg a=>rw [iL] at h;exact h
 |_=>simpa [Value.cells,cL] using h
def Mu.cut (μ:Mu) (n:Nat):Mu:=fun b=>if b<n then μ b else none
theorem Mu.eu {μ:Mu} {n b:Nat} {L:xK} (h:μ b=some L) (hb:b<n):μ.cut n b=some L:=by simp [Mu.cut,hb,h]
theorem Mu.CF {μ:Mu} {n b:Nat} {L:xK} (h:μ.cut n b=some L):μ b=some L/\b<n:=by
 unfold Mu.cut at h;split at h
 ·exact ⟨h,by assumption⟩
 ·cases h
theorem aG.cut {μ:Mu} {n:Nat} {v v':Value} (h:aG μ v v') (hb:bW n v=true):aG (μ.cut n) v v':=by
 have arr : ∀ {xs ys:Array Value},cL n xs.toList=true->(∀ (i:Nat) (x y:Value),xs[i]? = some x->ys[i]? = some y->bW n x=true->aG (μ.cut n) x y) -> ∀ (i:Nat) (x y:Value),xs[i]? = some x->ys[i]? = some y->aG (μ.cut n) x y:=by intro xs ys hl ih i x y hx hy;exact ih i x y hx hy (jR (i:=i) hl (by simpa using hx))
 induction h with
 |flat h=>exact .flat h
 |ptr h=>simp only [bW,DR] at hb;exact .ptr (Mu.eu h hb)
 |slice h=>simp only [bW,DR] at hb;exact .slice (Mu.eu h hb)
 |vq h a b c d e=>simp only [bW,DR] at hb;exact .vq (Mu.eu h hb) a b c d e
 |iX h=>simp only [bW,DR] at hb;exact .iX (Mu.eu h hb)
 |map h=>simp only [bW,DR] at hb;exact .map (Mu.eu h hb)
 |yt=>exact .yt
 |agg hs _ ih=>rw [iL] at hb;exact .agg hs (arr hb ih)
 |tuple hs _ ih=>rw [BG] at hb;exact .tuple hs (arr hb ih)
 | @func f g a b c d hf h1 _ h3 _ i1 i2=>
   obtain ⟨la⟩:=a;obtain ⟨lc⟩:=c;simp only [bW,DJ] at hb;refine .func ?_ h1 (arr hb.2.1 i1) h3 (arr hb.2.2 i2);cases f with
   |yield l=>obtain ⟨L,h5,h6⟩:=hf;exact ⟨L,Mu.eu h5 (by simpa [bdF] using hb.1),h6⟩
   |_=>exact hf
 |iface _ ih=>simp only [bW] at hb;exact .iface (ih hb)
theorem aP.cut {μ:Mu} {n:Nat} {v v':List Value} (h:aP μ v v') (hb:cL n v=true):aP (μ.cut n) v v':=
 ⟨h.1,fun i x y hx hy=>(h.2 i x y hx hy).cut (jR hb hx)⟩
theorem nG.cut {μ:Mu} {n:Nat} {v v':List Value} (h:nG μ v v') (hb:cL n v=true):nG (μ.cut n) v v':=
 ⟨h.1,fun i x y hx hy hh=>(h.2 i x y hx hy hh).cut (jR hb hx)⟩
def tX (n:Nat):fu->Bool
 | .map es _=>es.all fun x=>bW n x.1&&bW n x.2.1
 | .iter m _ _ _=>match m with
   |some b=>decide (b<n)
   |none=>true
 | .loop _ _ tmps _ _ _=>cL n tmps
theorem yH {n m:Nat} (h:n<=m) {o:fu} (e:tX n o=true):tX m o=true:=by
 cases o with
 |map es c=>
  simp only [tX,DT,DJ] at e |-;exact fun x hx=>⟨tA h (e x hx).1,tA h (e x hx).2⟩
 |iter m' a b c=>
  cases m' with
  |none=>rfl
  |some q=>simp only [tX,DR] at e |-;omega
 |loop a b c d f g=>exact bS (l:=c) h e
theorem pB.cut {μ:Mu} {n:Nat} {o:fu} {ob:Obj} (h:pB μ o ob) (hb:tX n o=true):pB (μ.cut n) o ob:=by
 cases o with
 |map es c=>
  cases ob with
  |map es' c'=>
   obtain ⟨h1,h2,h3⟩:=h;simp only [tX,DT,DJ] at hb;refine ⟨h1,h2,fun i x e hx he => ?_⟩;have hm:=hb x (EY hx);obtain ⟨k1,k2,k3⟩:=h3 i x e hx he;exact ⟨k1.cut hm.1,k2.cut hm.2,k3⟩
  |_=>exact h.elim
 |iter m since seen st=>
  cases ob with
  |mapIter m' since' seen' st'=>
   obtain ⟨h1,h2⟩:=h;refine ⟨?_,h2⟩;cases m with
   |none=>cases m' with
    |none=>trivial
    |some B=>exact h1
   |some a=>
    cases m' with
    |none=>exact h1
    |some B=>
     obtain ⟨L,h3,h4⟩:=h1;exact ⟨L,Mu.eu h3 (by simpa [tX] using hb),h4⟩
  |_=>exact h.elim
 |loop st pend tmps params assign body=>
  cases ob with
  |loop r=>
   obtain ⟨h1,h2,h3,h4⟩:=h;exact ⟨h1,h2,h3.cut hb,h4⟩
  |_=>exact h.elim
structure aI (h:ad):Prop where
 cell : ∀ b k,h.get b=some k->cL h.next k=true
 obj : ∀ b o,h.getB b=some (.obj o)->tX h.next o=true
instance {h:ad}:CoeFun (aI h) (fun _ => ∀ b k,h.get b=some k->cL h.next k=true):=⟨aI.cell⟩
theorem cm.cut {μ:Mu} {h:ad} {w:World} (s:cm μ h w) (hb:aI h):cm (μ.cut h.next) h w:=by
 have hle:=h.n0_le_next;refine ⟨?_,?_,?_,?_,s.size,?_⟩
 ·intro b cs hbn hc;obtain ⟨L,arr,T,fr,h1,h2,h3,h4,h5⟩:=s.old b cs hbn hc;refine ⟨L,arr,T,fr,Mu.eu h1 (by omega),h2,h3,h4,h5.cut (hb b cs ?_)⟩;unfold ad.get ad.getB;rw [DL hbn,hc];rfl
 ·intro b k hbn hg;obtain ⟨L,arr,T,fr,h1,h2,h3,h4,h5,h6,h7,h8⟩:=s.new b k hbn hg;exact ⟨L,arr,T,fr,Mu.eu h1 (h.aO hg),h2,h3,h4,h5,h6,h7,h8.cut (hb b k hg)⟩
 ·intro b o hbn hg;obtain ⟨L,ob,h1,h2,h3,h4⟩:=s.obj b o hbn hg;exact ⟨L,ob,Mu.eu h1 (h.lt_of_getB hg),h2,h3.cut (hb.obj b o hg),h4⟩
 ·intro b b' k k' L L' h1 h2 h3 h4 h5 h6 h7;exact s.inj b b' k k' L L' h1 h2 h3 h4 h5 (Mu.CF h6).1 (Mu.CF h7).1
 ·intro b hbn;obtain ⟨L,h1,h2⟩:=s.low b hbn;exact ⟨L,Mu.eu h1 (by omega),h2⟩
theorem aI.alloc {h:ad} {k:iM} (hb:aI h) (hk:cL (h.next+1) k=true):aI (h.alloc k):=by
 refine ⟨fun b k' hg => ?_,fun b o hg => ?_⟩
 ·rw [ad.aF] at hg;rw [ad.cq];split at hg
  ·cases hg;exact hk
  ·exact bS (by omega) (hb b k' hg)
 ·rw [ad.cF] at hg;rw [ad.cq];split at hg
  ·cases hg
  ·exact yH (by omega) (hb.obj b o hg)
theorem aI.qT {h:ad} {b:Nat} {x:Option BB} (hb:aI h) (h0:h.n0<=b) (hn:b<h.next) (hk : ∀ k,x=some (.cells k)->cL h.next k=true) (ho : ∀ o,x=some (.obj o)->tX h.next o=true):aI (h.put b x):=by
 refine ⟨fun c k' hg => ?_,fun c o hg => ?_⟩
 ·have hg:=(h.put b x).bg hg;rw [h.cP h0 hn] at hg;rw [ad.next_put];split at hg
  ·exact hk _ hg
  ·exact hb c k' (h.get_of_getB hg)
 ·rw [h.cP h0 hn] at hg;rw [ad.next_put];split at hg
  ·exact ho _ hg
  ·exact hb.obj c o hg
theorem aI.setO {h:ad} {b:Nat} {k:BB} {o:fu} (hb:aI h) (h0:h.n0<=b) (hg:h.getB b=some k) (ho:tX h.next o=true):aI (h.setO b o):=
 hb.qT h0 (h.lt_of_getB hg) (fun _ e=>by cases e) (fun _ e=>by cases e;exact ho)
theorem aI.allocO {h:ad} {o:fu} (hb:aI h) (ho:tX (h.next+1) o=true):aI (h.bn (.obj o)):=by
 refine ⟨fun b k' hg => ?_,fun b o' hg => ?_⟩
 ·have hg:=(h.bn _).bg hg;rw [ad.bI] at hg;rw [ad.fR];split at hg
  ·cases hg
  ·exact bS (by omega) (hb b k' (h.get_of_getB hg))
 ·rw [ad.bI] at hg;rw [ad.fR];split at hg
  ·cases hg;exact ho
  ·exact yH (by omega) (hb.obj b o' hg)
theorem aI.put {h:ad} {b:Nat} {x:Option iM} (hb:aI h) (h0:h.n0<=b) (hn:b<h.next) (hk : ∀ k,x=some k->cL h.next k=true):aI (h.put b (x.map .cells)):=by
 refine hb.qT h0 hn (fun k hx => ?_) (fun o hx => ?_)
 ·cases x with
  |none=>cases hx
  |some k'=>cases hx;exact hk _ rfl
 ·cases x with
  |none=>cases hx
  |some k'=>cases hx
theorem aI.stL {b off:Nat} {xs:List Value} {h h':ad} (hb:aI h) (hx:cL h.next xs=true) (e:stL b off xs h=some h'):aI h':=by
 unfold Abs.stL at e;split at e
 ·rename_i k hk;split at e
  ·rename_i hc;simp only [DJ,DR] at hc;cases e;exact hb.put (x:=some _) hc.1.1 (h.aO hk) (fun k' hk'=>by cases hk';exact yD (hb b k hk) hx)
  ·cases e
 ·cases e
section ops
variable {P:Program} {h h':ad} {v:Value}
theorem zg {size n:Nat} {x:Value} {cs:List Value} (hb:aI h) (e:firstA size n x h=some cs):cL h.next cs=true:=by
 unfold firstA at e;split at e
 ·split at e<;>cases e;rfl
 ·split at e
  ·cases e;rfl
  ·split at e
   ·rename_i k hk;split at e
    ·cases e;exact uu (uj (hb _ k hk))
    ·cases e
   ·cases e
 ·cases e;exact dV (by rw [bJ,DT];intro x hx;obtain ⟨b,_,rfl⟩:=E2.1 hx;rfl)
 ·cases e
theorem xL {n:Nat} : ∀ {ts:List (Nat×Nat×Value)} {cells out:List Value},cL n cells=true->(∀ t∈ts,bW n t.2.2=true)->fillL cells ts=some out->cL n out=true
 | [],cells,out,hc,_,e=>by simp only [fillL,DE] at e;subst e;exact hc
 | (off,k,v)::ts,cells,out,hc,ht,e=>by
   simp only [fillL] at e;split at e
   ·exact xL (ts:=ts) (yD hc (uJ (ht (off,k,v) (by simp)))) (fun t hm=>ht t (by simp [hm])) e
   ·cases e
theorem sB {z:List Value} {n:Nat} (h:bJ z=true):bJ (cU z n)=true:=by simp only [bJ,DT,cU,GQ] at h |-;rintro x ⟨_,_,hx⟩;exact h x hx
theorem bd_append {size oC:Nat} {s x:Value} (hb:aI h) (hs:bW h.next s=true) (e:appendA size oC s x h=some (v,h')):bW h'.next v=true/\aI h':=by
 unfold appendA at e;split at e
 ·rename_i bN len cap m hm;split at e
  ·cases e
  ·rename_i news hnews;have hn:=zg hb hnews;split at e
   ·cases e
   ·split at e
    ·split at e
     ·cases e;exact ⟨hs,hb⟩
     ·split at e
      ·simp only [DQ,DO] at e;obtain ⟨h1,hst,rfl,rfl⟩:=e;have hgr:h1.next=h.next:=by
        unfold stL at hst;split at hst
        ·split at hst
         ·cases hst;rfl
         ·cases hst
        ·cases hst
       exact ⟨by rw [hgr];simpa [bW] using hs,hb.stL hn hst⟩
      ·cases e
    ·split at e
     ·split at e
      ·simp only [DE,DO] at e;obtain ⟨rfl,rfl⟩:=e;exact ⟨by simp [bW],hb.alloc (bS (by omega) hn)⟩
      ·cases e
     ·split at e
      ·cases e
      ·rename_i olds holds;have ho:=zg hb holds;split at e
       ·cases e
       ·split at e
        ·simp only [DE,DO] at e;obtain ⟨rfl,rfl⟩:=e;exact ⟨by simp [bW],hb.alloc (bS (by omega) (bV ho hn))⟩
        ·split at e
         ·rename_i hc;simp only [DJ,DR] at hc;obtain ⟨k,hk⟩:=FQ.1 hc.2;simp only [DE,DO] at e;obtain ⟨rfl,rfl⟩:=e;have hkl:aI (h.kill _):=hb.put (x:=none) hc.1.2 (h.aO hk) (fun k' hk'=>by cases hk');exact ⟨by simp [bW],hkl.alloc (bS (by simp) (bV ho hn))⟩
         ·cases e
 ·cases e
theorem bd_ld {t:TypeId} {x:Value} (hb:aI h) (e:ld P t x h=some (v,h')):bW h'.next v=true/\aI h':=by
 unfold ld at e;split at e
 ·unfold cx at e;split at e
  ·split at e
   ·rename_i k hk;split at e
    ·simp only [DE,DO] at e;obtain ⟨rfl,rfl⟩:=e;exact ⟨by rw [iL];exact uu (uj (hb _ k hk)),hb⟩
    ·cases e
   ·cases e
  ·cases e
 ·unfold ld1 at e;split at e
  ·split at e
   ·rename_i k hk;split at e
    ·rename_i c hc;split at e
     ·simp only [DE,DO] at e;obtain ⟨rfl,rfl⟩:=e;exact ⟨jR (hb _ k hk) hc,hb⟩
     ·cases e
    ·cases e
   ·cases e
  ·cases e
 ·cases e
theorem bd_st {t:TypeId} {x y:Value} (hb:aI h) (hy:bW h.next y=true) (e:st P t x y h=some (v,h')):bW h'.next v=true/\aI h':=by
 unfold st at e;split at e
 ·unfold eo at e;split at e
  ·split at e
   ·simp only [DQ,DO] at e;obtain ⟨h1,hst,rfl,rfl⟩:=e;exact ⟨rfl,hb.stL (uJ hy) hst⟩
   ·cases e
  ·cases e
 ·cases e
theorem zJ {n size:Nat} {x r:Value} {lo hi mx:Option Value} (hx:bW n x=true) (e:sliceSl size x lo hi mx=some r):bW n r=true:=by
 unfold sliceSl at e
 repeat' split at e
 all_goals first
  | (cases e;done)
  | (cases e;first|rfl|(simpa [bW] using hx))
theorem wm {n k size:Nat} {x r:Value} {lo hi mx:Option Value} (hx:bW n x=true) (e:sliceArr k size x lo hi mx=some r):bW n r=true:=by
 unfold sliceArr at e
 repeat' split at e
 all_goals first
  | (cases e;done)
  | (cases e;simpa [bW] using hx)
theorem bd_slice {n:Nat} {t:TypeId} {x r:Value} {lo hi mx:Option Value} (hx:bW n x=true) (e:sliceA P t x lo hi mx=some r):bW n r=true:=by
 unfold sliceA at e;split at e
 ·simp only [DZ] at e;obtain ⟨z,_,e⟩:=e;exact wm hx e
 ·split at e
  ·simp only [DZ] at e;obtain ⟨z,_,e⟩:=e;exact wm hx e
  ·cases e
 ·split at e
  ·cases e
  ·simp only [DZ] at e;obtain ⟨z,_,e⟩:=e;exact zJ hx e
 ·split at e
  ·exact zJ hx e
  ·cases e
 ·cases e
theorem bd_addP {n k:Nat} {x r:Value} (hx:bW n x=true) (e:aH x k=some r):bW n r=true:=by
 unfold aH at e;split at e
 ·cases e;simpa [bW,ptr] using hx
 ·cases e
theorem bd_fieldAt {n:Nat} {t:TypeId} {x r:Value} {i:Nat} (hx:bW n x=true) (e:fieldAtA P t x i=some r):bW n r=true:=by
 unfold fieldAtA at e
 repeat' split at e
 all_goals first
  | (cases e;done)
  |exact bd_addP hx e
theorem bd_indexAt {n:Nat} {t:TypeId} {x ix r:Value} (hx:bW n x=true) (e:indexAtA P t x ix=some r):bW n r=true:=by
 unfold indexAtA at e;split at e
 ·simp only [DZ] at e;obtain ⟨z,_,e⟩:=e;unfold idxA at e
  repeat' split at e
  all_goals first
   | (cases e;done)
   |exact bd_addP hx e
 ·simp only [DZ] at e;obtain ⟨z,_,e⟩:=e;unfold idxS at e
  repeat' split at e
  all_goals first
   | (cases e;done)
   | (cases e;simpa [bW,ptr] using hx)
 ·cases e
theorem bd_part {n:Nat} {t:TypeId} {cs:Array Value} {off:Nat} {r:Value} (hx:cL n cs.toList=true) (e:jq P t cs off=some r):bW n r=true:=by
 unfold jq at e;split at e
 ·cases e;rw [iL];have : ∀ k,(cs.extract off (off+k)).toList=(cs.toList.drop off).take k:=by intro k;simp
  rw [this];exact uu (uj hx)
 ·exact jR (i:=off) hx (by simpa using e)
 ·cases e
theorem bd_field {n:Nat} {t:TypeId} {x r:Value} {i:Nat} (hx:bW n x=true) (e:fieldA P t x i=some r):bW n r=true:=by
 unfold fieldA at e;split at e
 ·split at e
  ·rw [iL] at hx;exact bd_part hx e
  ·cases e
 ·cases e
theorem bd_index {n:Nat} {t:TypeId} {x ix r:Value} (hx:bW n x=true) (e:indexA P t x ix=some r):bW n r=true:=by
 unfold indexA at e;split at e
 ·split at e
  ·simp only [DZ] at e;obtain ⟨z,_,e⟩:=e;rw [iL] at hx;exact bd_part hx e
  ·cases e
 ·split at e
  ·simp only [DQ] at e;obtain ⟨b,_,rfl⟩:=e;rfl
  ·cases e
 ·cases e
theorem bd_extract {n:Nat} {x r:Value} {i:Nat} (hx:bW n x=true) (e:extractA x i=some r):bW n r=true:=by
 unfold extractA at e;split at e
 ·rw [BG] at hx;exact jR (i:=i) hx (by simpa using e)
 ·cases e
theorem bd_nil {n:Nat} {x r:Value} (hx:bW n x=true) (e:nilCheckA x=some r):bW n r=true:=by unfold nilCheckA at e;split at e<;>cases e<;>exact hx
theorem bd_build {n:Nat} {t:TypeId} {ps:List (Nat×Value)} {r:Value} (hx : ∀ p∈ps,bW n p.2=true) (e:buildA P t ps=some r):bW n r=true:=by
 unfold buildA at e;split at e
 ·split at e
  ·rename_i hf;simp only [DJ] at hf;split at e
   ·rename_i ts hts;simp only [DQ] at e;obtain ⟨cs,hcs,rfl⟩:=e;rw [iL];refine xL (dV hf.1) ?_ hcs;have key : ∀ {fs:Array Field} {ps:List (Nat×Value)} {ts},(∀ p∈ps,bW n p.2=true)->fieldPlaces P fs ps=some ts -> ∀ t∈ts,bW n t.2.2=true:=by
     intro fs ps;induction ps with
     |nil=>intro ts _ h;simp [fieldPlaces] at h;subst h;simp
     |cons p ps ih=>
      intro ts hp h;unfold fieldPlaces at h;rw [GO] at h;simp only [bind,DZ,pure,DE] at h;obtain ⟨a,ha,l,hl,rfl⟩:=h;split at ha
      ·simp only [DQ] at ha;obtain ⟨k,_,rfl⟩:=ha;intro t ht;rcases FJ.1 ht with rfl|ht
       ·exact hp p (by simp)
       ·exact ih (fun q hq=>hp q (by simp [hq])) hl t ht
      ·cases ha
    exact key hx hts
   ·cases e
  ·cases e
 ·split at e
  ·split at e
   ·rename_i hf;simp only [DQ] at e;obtain ⟨cs,hcs,rfl⟩:=e;rw [iL];refine xL (dV hf) ?_ hcs;intro t ht;obtain ⟨p,hp,rfl⟩:=E2.1 ht;exact hx p hp
   ·cases e
  ·cases e
 ·cases e
theorem bd_conv {s d:TypeId} {x:Value} (hb:aI h) (hx:bW h.next x=true) (e:convA P s d x h=some (v,h')):bW h'.next v=true/\aI h':=by
 unfold convA at e
 repeat' split at e
 all_goals first
  | (cases e;done)
  | (simp only [DE,DO] at e
     obtain ⟨rfl,rfl⟩:=e;first
      |exact ⟨rfl,hb⟩
      |exact ⟨hx,hb⟩
      |exact ⟨by simp [bW],hb.alloc (dV (by rw [bJ,DT];intro x hx;obtain ⟨b,_,rfl⟩:=E2.1 hx;rfl))⟩)
theorem bd_make {t:TypeId} {l c:Value} (hb:aI h) (e:makeA P t l c h=some (v,h')):bW h'.next v=true/\aI h':=by
 unfold makeA at e;split at e
 ·split at e
  ·split at e
   ·rename_i hc;simp only [DJ,DR] at hc;simp only [DE,DO] at e;obtain ⟨rfl,rfl⟩:=e;exact ⟨by simp [bW],hb.alloc (dV (sB hc.1.1.2))⟩
   ·cases e
  ·cases e
 ·cases e
theorem Ba {t:TypeId} {len:Nat} {ps:List (Nat×Value)} (hb:aI h) (hx : ∀ p∈ps,bW h.next p.2=true) (e:buildSliceA P t len ps h=some (v,h')):bW h'.next v=true/\aI h':=by
 unfold buildSliceA at e;split at e
 ·split at e
  ·split at e
   ·rename_i hc;simp only [DJ,DR] at hc;split at e
    ·rename_i cs hcs;simp only [DE,DO] at e;obtain ⟨rfl,rfl⟩:=e;refine ⟨by simp [bW],hb.alloc (bS (HG _) (xL (dV (sB hc.1.1.1.1)) ?_ hcs))⟩;intro t ht;obtain ⟨p,hp,rfl⟩:=E2.1 ht;exact hx p hp
    ·cases e
   ·cases e
  ·cases e
 ·cases e
theorem vj {n:Nat} {mx:Bool} : ∀ {l:List Value} {x r:Value},bW n x=true->minmax mx x l=some r->bW n r=true
 | [],x,r,hx,e=>by cases e;exact hx
 |y::l,x,r,hx,e=>by
  unfold minmax at e;split at e
  ·rename_i h;cases h
  ·rename_i k a k' b cI heq;cases heq;split at e
   ·exact vj (l:=l) rfl e
   ·cases e
  ·cases e
theorem bd_entries {x:Value} {es:List (Value×Value×Nat)} (hb:aI h) (e:entriesA x h=some es) : ∀ p∈es,bW h.next p.1=true/\bW h.next p.2.1=true:=by
 unfold entriesA at e;split at e
 ·cases e;simp
 ·split at e
  ·rename_i b es' c hg;cases e;have:=hb.obj _ _ hg;simpa [tX] using this
  ·cases e
 ·cases e
theorem nw {t:TypeId} {k:Value} : ∀ {es:List (Value×Value×Nat)} {n i:Nat} {v:Value},findA P t k es n=some (some (i,v))->n<=i /\ ∃ x,es[i-n]? = some x/\x.2.1=v/\eqA P t k x.1=some true
 | [],n,i,v,e=>by simp [findA] at e
 |x::es,n,i,v,e=>by
  unfold findA at e;split at e
  ·rename_i he;simp only [DE,DO] at e;obtain ⟨rfl,rfl⟩:=e;exact ⟨DF _,x,by simp,rfl,he⟩
  ·obtain ⟨h1,y,h2,h3⟩:=nw e;refine ⟨by omega,y,?_,h3⟩;rw [show i-n=(i-(n+1))+1 by omega];exact h2
  ·cases e
theorem bd_lookup {t:TypeId} {x k:Value} {ok:Bool} (hb:aI h) (e:lookupA P t x k ok h=some (v,h')):bW h'.next v=true/\aI h':=by
 have gr : ∀ {z:Value},ground z=true->bW h.next z=true:=by
  intro z hz;cases z with
  |agg cs=>rw [iL];exact dV (by simpa [ground] using hz)
  |_=>exact jt hz
 unfold lookupA at e;split at e
 ·rename_i kt et es _ hes;split at e
  ·split at e
   ·rename_i i v1 z hf hz;obtain ⟨_,y,hy,rfl,_⟩:=nw hf;have hm:=bd_entries hb hes y (EY hy);simp only [DE,DO] at e;obtain ⟨rfl,rfl⟩:=e;refine ⟨?_,hb⟩;split
    ·simp [bW,cL,hm.2]
    ·exact hm.2
   ·rename_i z hz;split at e
    ·rename_i hgz;simp only [DE,DO] at e;obtain ⟨rfl,rfl⟩:=e;refine ⟨?_,hb⟩;split
     ·simp [bW,cL,gr hgz]
     ·exact gr hgz
    ·cases e
   ·cases e
  ·cases e
 ·cases e
theorem qy {n:Nat} {z:Value} (hz:ground z=true):bW n z=true:=by
 cases z with
 |agg cs=>rw [iL];exact dV (by simpa [ground] using hz)
 |_=>exact jt hz
theorem kP {n:Nat} {es:List (Value×Value×Nat)} {c:Nat} {i:Nat} {x:Value×Value×Nat} (hb:tX n (.map es c)=true) (h1:bW n x.1=true) (h2:bW n x.2.1=true) (c':Nat):tX n (.map (es.set i x) c')=true:=by
 simp only [tX,DT,DJ] at hb |-;intro y hy;rcases GL hy with h|h
 ·exact hb y h
 ·subst h;exact ⟨h1,h2⟩
theorem pF {n:Nat} {es:List (Value×Value×Nat)} {c:Nat} {x:Value×Value×Nat} (hb:tX n (.map es c)=true) (h1:bW n x.1=true) (h2:bW n x.2.1=true) (c':Nat):tX n (.map (es ++ [x]) c')=true:=by
 simp only [tX,DT,DJ] at hb |-;intro y hy;rcases D9.1 hy with h|h
 ·exact hb y h
 ·rw [EH.1 h];exact ⟨h1,h2⟩
theorem kN {n:Nat} {es:List (Value×Value×Nat)} {c i:Nat} {x:Value×Value×Nat} (hb:tX n (.map es c)=true) (hx:es[i]? = some x):bW n x.1=true/\bW n x.2.1=true:=by simp only [tX,DT,DJ] at hb;exact hb x (EY hx)
theorem tJ {t:TypeId} {m k x:Value} (hb:aI h) (hx:bW h.next x=true) (e:mapUpdateA P t m k x h=some (v,h')):bW h'.next v=true/\aI h':=by
 unfold mapUpdateA at e;split at e
 ·split at e
  ·rename_i b es clock hg;have ho:=hb.obj _ _ hg;have h0:=h.bE hg;split at e
   ·rename_i hk;simp only [DJ] at hk;have hkb:=qy (n:=h.next) hk.2;split at e
    ·split at e
     ·split at e
      ·cases e;exact ⟨rfl,hb.setO h0 hg (kP ho hkb hx _)⟩
      ·cases e
     ·cases e
    ·cases e;exact ⟨rfl,hb.setO h0 hg (pF ho hkb hx _)⟩
    ·cases e
   ·cases e
  ·cases e
 ·cases e
theorem bd_mapEntry {t:TypeId} {m k:Value} (hb:aI h) (e:ja P t m k h=some (v,h')):bW h'.next v=true/\aI h':=by
 unfold ja at e;split at e
 ·split at e
  ·rename_i b es clock hg;have ho:=hb.obj _ _ hg;have h0:=h.bE hg;split at e
   ·rename_i hk;simp only [DJ] at hk;have hkb:=qy (n:=h.next) hk.2;split at e
    ·rename_i i v1 hf;obtain ⟨_,y,hy,rfl,_⟩:=nw hf;split at e
     ·rename_i x hx;split at e
      ·cases e;have hm:=kN ho hx;have hm2:=kN ho hy;exact ⟨by simp only [ad.jU,bW,cL,DV,hm2.2,EE];rfl,hb.setO h0 hg (kP (x:=(k,x.2.1,x.2.2)) ho hkb hm.2 _)⟩
      ·cases e
     ·cases e
    ·split at e
     ·rename_i z hz;split at e
      ·rename_i hgz;cases e;exact ⟨by simp only [ad.jU,bW,cL,DV,qy hgz,EE];rfl,hb.setO h0 hg (pF ho hkb (qy hgz) _)⟩
      ·cases e
     ·cases e
    ·cases e
   ·cases e
  ·cases e
 ·cases e
theorem AT {m s x:Value} (hb:aI h) (hx:bW h.next x=true) (e:entryStoreA m s x h=some (v,h')):bW h'.next v=true/\aI h':=by
 unfold entryStoreA at e;split at e
 ·split at e
  ·rename_i b n es clock hg;have ho:=hb.obj _ _ hg;have h0:=h.bE hg;split at e
   ·split at e
    ·rename_i y hy;cases e;exact ⟨rfl,hb.setO h0 hg (kP (x:=(y.1,x,y.2.2)) ho (kN ho hy).1 hx _)⟩
    ·cases e
   ·cases e
  ·cases e
 ·cases e
theorem bd_makeMap {r:Option Value} {t:TypeId} (hb:aI h) (e:gD r P t h=some (v,h')):bW h'.next v=true/\aI h':=by
 unfold gD at e;split at e
 ·cases e;exact ⟨by simp [bW],hb.allocO rfl⟩
 ·split at e
  ·cases e;exact ⟨by simp [bW],hb.allocO rfl⟩
  ·cases e
 ·cases e
theorem bd_range {t:TypeId} {x:Value} (hb:aI h) (e:rangeA P t x h=some (v,h')):bW h'.next v=true/\aI h':=by
 unfold rangeA at e;split at e
 ·cases e;exact ⟨by simp [bW,ptr],hb.allocO rfl⟩
 ·split at e
  ·rename_i b es clock hg;cases e;have:=h.lt_of_getB hg;exact ⟨by simp [bW,ptr],hb.allocO (by simp only [tX,DR];omega)⟩
  ·cases e
 ·cases e
theorem bd_nexts {it:Value} {l:List (Value×ad)} (hb:aI h) (e:nextsA it h=some l) : ∀ p∈l,bW p.2.next p.1=true/\aI p.2:=by
 unfold nextsA at e;split at e
 ·split at e
  ·cases e;intro p hp;rw [EH.1 hp];exact ⟨rfl,hb⟩
  ·rename_i r m since seen gY hr;split at e
   ·rename_i es clock hm;simp only [DQ] at e;obtain ⟨cs,hc,rfl⟩:=e;intro p hp;obtain ⟨c,hcm,rfl⟩:=E2.1 hp;cases c with
    |none=>exact ⟨rfl,hb⟩
    |some c=>
     unfold uW at hc;split at hc
     ·cases hc
     ·simp only [DE] at hc;subst hc;have hin:c∈es:=by
       rcases D9.1 hcm with h1|h1
       ·split at h1
        ·simp at h1
        ·cases h1
       ·simp only [FG,D9,E2,DE,exists_eq_right] at h1;rcases h1 with h1|h1
        ·exact (EW.1 (EW.1 h1).1).1
        ·exact (EW.1 (EW.1 h1).1).1
      have hbm:=hb.obj _ _ hm;simp only [tX,DT,DJ] at hbm;have hq:=hbm c hin;refine ⟨by simp only [stepTo,ad.jU,bW,cL,hq.1,hq.2,FD],hb.setO (h.bE hr) hr ?_⟩;simp only [tX,DR];exact h.lt_of_getB hm
   ·cases e
  ·cases e
 ·cases e
theorem bd_next {it:Value} {str:Bool} (hb:aI h) (e:nextA it str h=some (v,h')):bW h'.next v=true/\aI h':=by
 unfold nextA at e;split at e
 ·cases e
 ·split at e
  ·rename_i r hr;cases e;exact bd_nexts hb hr (v,h') (by simp)
  ·cases e
theorem bd_delete {t:TypeId} {m k:Value} (hb:aI h) (e:deleteA P t m k h=some (v,h')):bW h'.next v=true/\aI h':=by
 unfold deleteA at e;split at e
 ·split at e
  ·split at e
   ·cases e;exact ⟨rfl,hb⟩
   ·split at e
    ·rename_i b es clock hg;have ho:=hb.obj _ _ hg;have h0:=h.bE hg;split at e
     ·cases e;refine ⟨rfl,hb.setO h0 hg ?_⟩;simp only [tX,DT,DJ] at ho |-;exact fun x hx=>ho x (List.mem_of_mem_eraseIdx hx)
     ·cases e;exact ⟨rfl,hb.setO h0 hg ho⟩
     ·cases e
    ·cases e
   ·cases e
  ·cases e
 ·cases e
theorem bd_mapClear {x:Value} (hb:aI h) (e:iU x h=some (v,h')):bW h'.next v=true/\aI h':=by
 unfold iU at e;split at e
 ·cases e;exact ⟨rfl,hb⟩
 ·split at e
  ·rename_i b es clock hg;cases e;exact ⟨rfl,hb.setO (h.bE hg) hg rfl⟩
  ·cases e
 ·cases e
theorem bd_builtin {b:Builtin} {ts:List TypeId} {args:List Value} (hb:aI h) (ha:cL h.next args=true) (e:builtinA P b ts args h=some (v,h')):bW h'.next v=true/\aI h':=by
 unfold builtinA at e;split at e
 ·simp only [cL,DJ] at ha
  repeat' split at e
  all_goals first
   | (cases e;done)
   |exact bd_append hb ha.1 e
 ·split at e
  ·simp only [DZ] at e;obtain ⟨n,_,e⟩:=e;unfold sX at e;split at e
   ·simp only at e;split at e
    ·cases e
    ·rename_i news hn;split at e
     ·cases e;exact ⟨rfl,hb⟩
     ·split at e
      ·cases e
      ·simp only [DQ,DO] at e;obtain ⟨h1,hst,rfl,rfl⟩:=e;exact ⟨rfl,hb.stL (zg hb hn) hst⟩
   ·cases e
  ·cases e
 ·split at e
  ·simp only [DZ] at e;obtain ⟨n,_,e⟩:=e;unfold clearA at e;split at e
   ·cases e;exact ⟨rfl,hb⟩
   ·split at e
    ·cases e;exact ⟨rfl,hb⟩
    ·split at e
     ·split at e
      ·rename_i hc;simp only [DJ,DR] at hc;simp only [DQ,DO] at e;obtain ⟨h1,hst,rfl,rfl⟩:=e;exact ⟨rfl,hb.stL (dV (sB hc.1.1)) hst⟩
      ·cases e
     ·cases e
   ·cases e
  ·split at e
   ·exact bd_mapClear hb e
   ·cases e
 ·split at e
  ·rename_i r hr;cases e;unfold lenOfT at hr
   repeat' split at hr
   all_goals first
    | (cases hr;done)
    | (cases hr;exact ⟨rfl,hb⟩)
  ·split at e
   ·simp only [DQ,DO] at e;obtain ⟨r,hr,rfl,rfl⟩:=e;unfold xo at hr;simp only [DQ] at hr;obtain ⟨_,_,rfl⟩:=hr;exact ⟨rfl,hb⟩
   ·cases e
 ·exact bd_delete hb e
 ·simp only [cL,DJ] at ha;simp only [DQ,DO] at e;obtain ⟨r,hr,rfl,rfl⟩:=e;exact ⟨vj ha.1 hr,hb⟩
 ·simp only [cL,DJ] at ha;simp only [DQ,DO] at e;obtain ⟨r,hr,rfl,rfl⟩:=e;exact ⟨vj ha.1 hr,hb⟩
 ·cases e
end ops
end
abbrev aQ:Value := .int .u8 0
abbrev sO:Value := .int .i64 0
abbrev zU6:Value := .int .u64 0
abbrev zU3:Value := .int .u32 0
abbrev zSl:Value := .slice none 0 0
abbrev zBf:Value := .bool false
abbrev lF:List Value := [aQ,sO,sO,zU6,sO,sO,zSl,zSl,zSl,sO,aQ,aQ,aQ,aQ,aQ,aQ,aQ,aQ,aQ,aQ,aQ,aQ,aQ,aQ,aQ,aQ,aQ,aQ,aQ,aQ,aQ,aQ,aQ,aQ,aQ,aQ,aQ,aQ,aQ,aQ,aQ,aQ,zSl,zBf,aQ,aQ,aQ,aQ,aQ,aQ,aQ,aQ,aQ,aQ,aQ,aQ,aQ,aQ,aQ,aQ,aQ,aQ,aQ,aQ,aQ,aQ,aQ,aQ,aQ,aQ,aQ,aQ,aQ,aQ,aQ,aQ,sO,sO,sO,sO,aQ,aQ,aQ,aQ,aQ,aQ,aQ,aQ,aQ,aQ,aQ,aQ,aQ,aQ,aQ,aQ,aQ,aQ,aQ,aQ,aQ,aQ,aQ,aQ,aQ,aQ,aQ,aQ,aQ,aQ,aQ,aQ,zSl,sO,zSl,sO]
abbrev wF:Array Value := #[aQ,sO,sO,zU6,sO,sO,zSl,zSl,zSl,sO,aQ,aQ,aQ,aQ,aQ,aQ,aQ,aQ,aQ,aQ,aQ,aQ,aQ,aQ,aQ,aQ,aQ,aQ,aQ,aQ,aQ,aQ,aQ,aQ,aQ,aQ,aQ,aQ,aQ,aQ,aQ,aQ,zSl,zBf,aQ,aQ,aQ,aQ,aQ,aQ,aQ,aQ,aQ,aQ,aQ,aQ,aQ,aQ,aQ,aQ,aQ,aQ,aQ,aQ,aQ,aQ,aQ,aQ,aQ,aQ,aQ,aQ,aQ,aQ,aQ,aQ,sO,sO,sO,sO,aQ,aQ,aQ,aQ,aQ,aQ,aQ,aQ,aQ,aQ,aQ,aQ,aQ,aQ,aQ,aQ,aQ,aQ,aQ,aQ,aQ,aQ,aQ,aQ,aQ,aQ,aQ,aQ,aQ,aQ,aQ,aQ,zSl,sO,zSl,sO]
abbrev gI:Array Value := #[aQ,aQ,aQ,aQ,aQ,aQ,aQ,aQ,aQ,aQ,aQ,aQ,aQ,aQ,aQ,aQ,aQ,aQ,aQ,aQ,aQ,aQ,aQ,aQ,aQ,aQ,aQ,aQ,aQ,aQ,aQ,aQ,aQ,sO,zU6,zU6,zBf,sO,sO]
abbrev kr:List Value := [aQ,aQ,aQ,aQ,aQ,aQ,aQ,aQ,aQ,aQ,aQ,aQ,aQ,aQ,aQ,aQ,aQ,aQ,aQ,aQ,aQ,aQ,aQ,aQ,aQ,aQ,aQ,aQ,aQ,aQ,aQ,aQ,aQ,sO,zU6,zU6,zBf,sO,sO]
abbrev zlit4:List Value := [zU3,zU3,zU3,zU3,zU3,zU3,zU3,zU3,aQ,aQ,aQ,aQ,aQ,aQ,aQ,aQ,aQ,aQ,aQ,aQ,aQ,aQ,aQ,aQ,aQ,aQ,aQ,aQ,aQ,aQ,aQ,aQ,aQ,aQ,aQ,aQ,aQ,aQ,aQ,aQ,aQ,aQ,aQ,aQ,aQ,aQ,aQ,aQ,aQ,aQ,aQ,aQ,aQ,aQ,aQ,aQ,aQ,aQ,aQ,aQ,aQ,aQ,aQ,aQ,aQ,aQ,aQ,aQ,aQ,aQ,aQ,aQ,sO]
abbrev BD:List Value := [aQ,aQ,aQ,aQ,aQ,aQ,aQ,aQ,aQ,aQ,aQ,aQ,aQ,aQ,aQ,aQ,aQ,aQ,aQ,aQ,aQ,aQ,aQ,aQ,aQ,aQ,aQ,aQ,aQ,aQ,aQ,aQ,aQ,sO]
end Go.Abs
