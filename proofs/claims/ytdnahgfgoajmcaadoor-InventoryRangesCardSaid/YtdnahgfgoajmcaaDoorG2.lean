/-
  A part of the proof, spaces and names shortened by a program (a claim may hold 1,500,000 bytes).
  Conditions: as each theorem states.
-/
import Derived.Test.YtdnahgfgoajmcaaDoorG1
namespace Go.Abs
section ops
variable {P:Program} {μ:Mu} {h:ab} {w:World}
theorem make_sound {t:TypeId} {l l' c c' r:Value} {h':ab} (s:cg μ h w) (hf:eH μ h h') (hl:aA μ l l') (hc:aA μ c c') (e:makeA P t l c h=some (r,h')) :
  ∃ μ' r' w',(Instr.makeSlice t l' c').run P w = .ok r' w'∧cg μ' h' w'∧Step μ h w μ' h' w'∧aA μ' r r':=by
 unfold makeA at e
 cases hu:P.underlying t with
 |none=>rw [show gL P t=none from by simp [gL,hu]] at e;cases e
 |some d=>
  cases d with
  |slice el=>
   rw [show gL P t=some el from by simp [gL,hu]] at e
   split at e
   ·rename_i _ _ _ l c heq
    cases heq
    rw [hl.int,hc.int]
    split at e
    ·rename_i n by_ z hn hb hz
     split at e
     ·rename_i hcond
      simp only [Bool.and_eq_true,decide_eq_true_eq] at hcond
      obtain ⟨⟨⟨⟨⟨⟨h0,h1⟩,h2⟩,h3⟩,hfl⟩,hzn⟩,hpos⟩:=hcond
      simp only [Option.some.injEq,Prod.mk.injEq] at e
      obtain ⟨rfl,rfl⟩:=e
      obtain ⟨i,hi,hin⟩:=info_of_sizeT hn
      have hib:i.bytes=by_:=by simp only [bytesT,hi,Option.map_some,Option.some.injEq] at hb;exact hb
      have wl:IntKind.i64.wrap l=l:=IntWalk.i64_in _ (by omega)
      have wc:IntKind.i64.wrap c=c:=IntWalk.i64_in _ (by omega)
      have hz1:dx z.cells.toList c.toNat=(List.range (c.toNat*n)).map fun i=>z.cells[i%z.cells.size]! := by
       rw [←hzn,range_zeros z.cells (by omega)]
      obtain ⟨μ',w',hrun,hS,hSt,L,hL,hB,hO,_⟩:=newRow_sound (P:=P) s hf (aM.of_flat (μ:=μ) (l:=dx z.cells.toList c.toNat) (by
       simp only [flatAll,List.all_eq_true,dx,List.mem_flatMap] at hfl ⊢
       rintro x ⟨_,_,hx⟩;exact hfl x hx)) el
      have harr:(Array.range (c.toNat*n)).map (fun i=>z.cells[i%z.cells.size]!)=(dx z.cells.toList c.toNat).toArray:=by
       apply Array.ext'
       rw [hz1];simp
      refine ⟨μ',.slice (some ⟨w.heap.size,0,none⟩) l.toNat c.toNat,w',?_,hS,hSt,?_⟩
      ·have hlarge:(decide (c<0)||decide ((i.bytes:Int)*c>2^48))=false:=by
        rw [hib]
        simp only [Bool.or_eq_false_iff,decide_eq_false_iff_not]
        refine ⟨by omega,?_⟩
        have:(2:Int)^48=281474976710656:=by decide
        omega
       unfold Instr.makeSlice
       simp only [Sem.run_bind,run_underlying hu,Result.andThen_ok,asInt,asIntOf,Sem.run_pure,run_typeInfo w hi,wl,wc]
       rw [hlarge]
       have hlt:decide (l<0)=false:=by simp;omega
       have hgt:decide (l>c)=false:=by simp;omega
       simp only [hlt,hgt,Bool.or_self,Bool.false_eq_true,if_false,Sem.run_bind,run_askRoom,Result.andThen_ok,cI w hn]
       by_cases hcz:c.toNat*n=0
       ·have hr0:Array.range (c.toNat*n) = #[]:=by rw [hcz];rfl
        have hnil:dx z.cells.toList c.toNat = []:=by rw [hz1,hcz];rfl
        rw [hnil] at hrun
        rw [if_pos hcz,hr0]
        simp [hrun]
       ·rw [if_neg hcz]
        simp only [Sem.run_bind,eV w hz,Result.andThen_ok,Sem.run_pure,harr,hrun]
      ·have:=aA.slice (off:=0) (len:=l.toNat) (cap:=c.toNat) hL
       rw [hB,hO] at this
       exact this
     ·cases e
    ·cases e
   ·cases e
  |_=>rw [show gL P t=none from by simp [gL,hu]] at e;cases e
def ORel (μ:Mu) (x y:Option Value):Prop:=(x=none∧y=none) ∨ ∃ a b,x=some a∧y=some b∧aA μ a b
theorem bound_eq {d y n:Nat} {x x':Option Value} (hx:ORel μ x x') (e:bE d y x=some n):x'=x:=by
 rcases hx with ⟨rfl,rfl⟩|⟨a,b,rfl,rfl,hv⟩
 ·rfl
 ·unfold bE at e
  split at e
  ·rename_i heq;cases heq
  ·rename_i k i heq;cases heq;rw [hv.int]
  ·cases e
theorem bounds_eq {len cap:Nat} {lo hi mx lo' hi' mx':Option Value} {r:Nat×Nat×Nat} (h1:ORel μ lo lo') (h2:ORel μ hi hi') (h3:ORel μ mx mx') (e:cm len cap lo hi mx=some r) :
  lo'=lo∧hi'=hi∧mx'=mx:=by
 unfold cm at e
 split at e
 ·rename_i m hm
  split at e
  ·cases e
  ·split at e
   ·rename_i h hh
    split at e
    ·rename_i l hl
     exact ⟨bound_eq h1 hl,bound_eq h2 hh,bound_eq h3 hm⟩
    ·cases e
   ·cases e
 ·cases e
theorem fL {d y n:Nat} {v:Value} {code:BoundsCode} (e:bE d y (some v)=some n):(Instr.sliceBound v y code).run P w = .ok n w:=by
 unfold bE at e
 split at e
 ·rename_i heq;cases heq
 ·rename_i k i heq
  cases heq
  split at e
  ·rename_i hc
   cases e
   simp [Instr.sliceBound,asIntOf,hc]
  ·cases e
 ·cases e
theorem run_bounds {isSl:Bool} {len cap:Nat} {lo hi mx:Option Value} {r:Nat×Nat×Nat} (e:cm len cap lo hi mx=some r) :
  (Instr.sliceBounds isSl len cap lo hi mx).run P w = .ok r w:=by
 unfold cm at e
 split at e
 ·rename_i m hm
  split at e
  ·cases e
  ·rename_i hne
   split at e
   ·rename_i h hh
    split at e
    ·rename_i l hl
     cases e
     unfold Instr.sliceBounds
     cases mx with
     |none=>
      simp only [bE,Option.some.injEq] at hm
      subst hm
      cases hi with
      |none=>
       simp only [bE,Option.some.injEq] at hh
       subst hh
       cases lo with
       |none=>simp only [bE,Option.some.injEq] at hl;subst hl;simp
       |some v=>simp [fL hl]
      |some u=>
       cases lo with
       |none=>simp only [bE,Option.some.injEq] at hl;subst hl;simp [fL hh]
       |some v=>simp [fL hl,fL hh]
     |some t=>
      cases hi with
      |none=>exact (hne _ rfl rfl).elim
      |some u=>
       cases lo with
       |none=>simp only [bE,Option.some.injEq] at hl;subst hl;simp [fL hh,fL hm]
       |some v=>simp [fL hl,fL hh,fL hm]
    ·cases e
   ·cases e
 ·cases e
theorem bounds_le {len cap:Nat} {lo hi mx:Option Value} {l h m:Nat} (hlc:len≤cap) (e:cm len cap lo hi mx=some (l,h,m)):l≤h∧h≤m∧(mx=none→m=cap):=by
 have b : ∀ {d y n:Nat} {x:Option Value},bE d y x=some n→(x=none∧n=d)∨n≤y:=by
  intro d y n x e
  unfold bE at e
  split at e
  ·cases e;exact .inl ⟨rfl,rfl⟩
  ·split at e
   ·rename_i hc;cases e;right;omega
   ·cases e
  ·cases e
 unfold cm at e
 split at e
 ·rename_i m' hm
  split at e
  ·cases e
  ·rename_i hne
   split at e
   ·rename_i h' hh
    split at e
    ·rename_i l' hl
     cases e
     have hm':m=cap∨mx≠none:=by
      cases mx with
      |none=>simp only [bE,Option.some.injEq] at hm;exact .inl hm.symm
      |some v=>right;simp
     refine ⟨?_,?_,?_⟩
     ·rcases b hl with ⟨_,rfl⟩|h1
      ·exact Nat.zero_le _
      ·exact h1
     ·rcases b hh with ⟨h0,rfl⟩|h1
      ·subst h0
       cases mx with
       |none=>simp only [bE,Option.some.injEq] at hm;omega
       |some v=>exact (hne _ rfl rfl).elim
      ·exact h1
     ·intro h0;subst h0;simp only [bE,Option.some.injEq] at hm;exact hm.symm
    ·cases e
   ·cases e
 ·cases e
theorem bounds_cap {len cap cap':Nat} {lo hi:Option Value} {l h m:Nat} (hc:cap≤cap') (e:cm len cap lo hi none=some (l,h,m)):cm len cap' lo hi none=some (l,h,cap'):=by
 have b : ∀ {d y y' n:Nat} {x:Option Value},y≤y'→bE d y x=some n→bE d y' x=some n:=by
  intro d y y' n x hy e
  unfold bE at e ⊢
  split at e
  ·exact e
  ·split at e
   ·rename_i hc;rw [if_pos (by omega)];exact e
   ·cases e
  ·cases e
 have hn : ∀ c,bE c c none=some c:=fun _=>rfl
 unfold cm at e ⊢
 rw [hn] at e ⊢
 cases hi with
 |none=>
  simp only at e ⊢
  have hl:bE len cap none=some len:=rfl
  have hl':bE len cap' none=some len:=rfl
  rw [hl] at e
  rw [hl']
  simp only at e ⊢
  split at e
  ·cases e;rfl
  ·cases e
 |some u=>
  simp only at e ⊢
  split at e
  ·rename_i h' hh
   rw [b hc hh]
   simp only
   split at e
   ·cases e;rfl
   ·cases e
  ·cases e
theorem sliceSl_sound {t el:TypeId} {size:Nat} {x x' r:Value} {lo hi mx lo' hi' mx':Option Value} (hu:P.underlying t=some (.slice el)) (hz:cz P el=some size)
  (hx:aA μ x x') (h1:ORel μ lo lo') (h2:ORel μ hi hi') (h3:ORel μ mx mx') (hstr : ∀ s,x ≠ .string s) (e:dP size x lo hi mx=some r) :
  ∃ r',(Instr.slice t x' lo' hi' mx').run P w = .ok r' w∧aA μ r r':=by
 have run : ∀ (a:Option Addr) (len cap:Nat) {l h m:Nat},cm len cap lo' hi' mx'=some (l,h,m) →
   (Instr.slice t (.slice a len cap) lo' hi' mx').run P w = .ok (.slice (if m=l then a else a.map (·.add (l*size))) (h-l) (m-l)) w:=by
  intro a len cap l h m hb
  unfold Instr.slice
  simp [run_underlying hu,run_bounds (P:=P) (w:=w) hb,cI w hz]
 unfold dP at e
 split at e
 ·rename_i len cap
  split at e
  ·rename_i l h m hb
   cases e
   obtain ⟨rfl,rfl,rfl⟩:=bounds_eq h1 h2 h3 hb
   rw [hx.bD rfl]
   exact ⟨_,run _ _ _ hb,by
    have:(if m=l then (none:Option Addr) else Option.map (fun (a:Addr)=>a.add (l*size)) none)=none:=by split<;>rfl
    rw [this];exact .flat rfl⟩
  ·cases e
 ·rename_i b off len cap
  split at e
  ·rename_i l h m hb
   cases e
   obtain ⟨rfl,rfl,rfl⟩:=bounds_eq h1 h2 h3 hb
   cases hx with
   |flat h=>simp [flat] at h
   |slice hL=>
    rename_i L
    refine ⟨_,run _ _ _ hb,?_⟩
    by_cases hm:m=l
    ·simp only [hm,if_true];exact .slice hL
    ·simp only [hm,if_false,Option.map_some,Addr.add_lit]
     have:=aA.slice (off:=off+l*size) (len:=h-l) (cap:=m-l) hL
     rw [←Nat.add_assoc] at this
     exact this
  ·cases e
 ·rename_i b off s len cap
  split at e
  ·cases e
  ·split at e
   ·rename_i l h m hb
    split at e
    ·rename_i hs
     obtain ⟨hs,hs0⟩:=hs
     subst hs
     cases e
     obtain ⟨rfl,rfl,rfl⟩:=bounds_eq h1 h2 h3 hb
     cases hx with
     |flat h=>simp [flat] at h
     |hid hL hl hc hm' g1 g2=>
      rename_i cap' L
      have hb':=bounds_cap hc hb
      obtain ⟨k1,k2,k3⟩:=bounds_le hl hb
      have k3:=k3 rfl
      subst k3
      refine ⟨_,run _ _ _ hb',?_⟩
      by_cases hm:cap'=l
      ·simp only [hm,if_true]
       obtain rfl:m=l:=by omega
       obtain rfl:h=m:=by omega
       rw [Nat.sub_self]
       exact .hemp hL
      ·simp only [hm,if_false,Option.map_some,Addr.add_lit]
       have e1:off+l*s+(m-l)*s=off+m*s:=by
        rw [Nat.add_assoc,←Nat.add_mul];congr 2;omega
       have e2:off+l*s+(cap'-l)*s=off+cap'*s:=by
        rw [Nat.add_assoc,←Nat.add_mul];congr 2;omega
       have:=aA.hid (off:=off+l*s) (len:=h-l) (cap:=m-l) (cap':=cap'-l) (s:=s) hL (by omega) (by omega) (by unfold maxLen at hm' ⊢;omega) (by omega) (by omega)
       rw [←Nat.add_assoc] at this
       exact this
     |hemp hL=>
      rename_i O L
      obtain ⟨k1,k2,k3⟩:=bounds_le (Nat.le_refl _) hb
      have k3:=k3 rfl
      subst k3
      obtain rfl:h=0:=by omega
      obtain rfl:l=0:=by omega
      refine ⟨_,run _ _ _ hb,?_⟩
      simp only [if_true]
      exact .hemp hL
     |zer=>exact absurd rfl hs0
    ·split at e
     ·rename_i hz0
      obtain ⟨hz1,hz2,hz3⟩:=hz0
      subst hz1 hz2 hz3
      cases e
      obtain ⟨rfl,rfl,rfl⟩:=bounds_eq h1 h2 h3 hb
      obtain ⟨k1,k2,k3⟩:=bounds_le (Nat.le_refl _) hb
      have k3:=k3 rfl
      subst k3
      obtain rfl:h=0:=by omega
      obtain rfl:l=0:=by omega
      cases hx with
      |flat h=>simp [flat] at h
      |hid hL hl hc hm' g1 g2=>
       rename_i cap' L
       have hb':=bounds_cap hc hb
       refine ⟨_,run _ _ _ hb',?_⟩
       by_cases hm:cap'=0
       ·subst hm
        simp only [if_true,Nat.sub_self]
        exact .hemp hL
       ·simp only [hm,if_false,Option.map_some,Addr.add_lit,Nat.zero_mul,Nat.add_zero,Nat.sub_zero]
        exact .hid hL hl hc hm' g1 g2
      |hemp hL=>
       refine ⟨_,run _ _ _ hb,?_⟩
       simp only [if_true]
       exact .hemp hL
      |zer=>
       refine ⟨_,run _ _ _ hb,?_⟩
       simp only [if_true]
       exact .zer
     ·cases e
   ·cases e
 ·exact absurd rfl (hstr _)
 ·cases e
theorem sliceArr_sound {n size:Nat} {x x' r:Value} {lo hi mx lo' hi' mx':Option Value} (hx:aA μ x x') (h1:ORel μ lo lo') (h2:ORel μ hi hi') (h3:ORel μ mx mx')
  (e:cy n size x lo hi mx=some r) :
  ∃ a l h m,x' = .pointer (some a)∧lo'=lo∧hi'=hi∧mx'=mx∧cm n n lo hi mx=some (l,h,m)∧aA μ r (.slice (some (if m=l then a else a.add (l*size))) (h-l) (m-l)):=by
 unfold cy at e
 split at e
 ·rename_i b off
  split at e
  ·rename_i l h m hb
   cases e
   obtain ⟨e1,e2,e3⟩:=bounds_eq h1 h2 h3 hb
   obtain ⟨L,hL,rfl⟩:=addrOf_rel hx
   refine ⟨_,l,h,m,rfl,e1,e2,e3,hb,?_⟩
   by_cases hm:m=l
   ·simp only [hm,if_true];exact .slice hL
   ·simp only [hm,if_false,Addr.add_lit]
    have:=aA.slice (off:=off+l*size) (len:=h-l) (cap:=m-l) hL
    rw [←Nat.add_assoc] at this
    exact this
  ·cases e
 ·cases e
theorem slice_sound {t:TypeId} {x x' r:Value} {lo hi mx lo' hi' mx':Option Value} (hx:aA μ x x') (h1:ORel μ lo lo') (h2:ORel μ hi hi') (h3:ORel μ mx mx') (e:sliceA P t x lo hi mx=some r) :
  ∃ r',(Instr.sliceAt t x' lo' hi' mx').run P w = .ok r' w∧aA μ r r':=by
 unfold sliceA at e
 split at e
 ·rename_i n el hu
  simp only [Option.bind_eq_some_iff] at e
  obtain ⟨z,hz,e⟩:=e
  obtain ⟨a,l,h,m,rfl,rfl,rfl,rfl,hb,hv⟩:=sliceArr_sound hx h1 h2 h3 e
  exact ⟨_,by simp [Instr.sliceAt,run_underlying hu,Instr.sureAddr,run_bounds (P:=P) (w:=w) hb,cI w hz],hv⟩
 ·rename_i arr hu
  split at e
  ·rename_i n el ha
   simp only [Option.bind_eq_some_iff] at e
   obtain ⟨z,hz,e⟩:=e
   obtain ⟨a,l,h,m,rfl,rfl,rfl,rfl,hb,hv⟩:=sliceArr_sound hx h1 h2 h3 e
   exact ⟨_,by simp [Instr.sliceAt,Instr.slice,run_underlying hu,run_underlying ha,asAddr,run_bounds (P:=P) (w:=w) hb,cI w hz],hv⟩
  ·cases e
 ·rename_i el hu
  split at e
  ·cases e
  ·rename_i hns
   simp only [Option.bind_eq_some_iff] at e
   obtain ⟨z,hz,e⟩:=e
   obtain ⟨r',hrun,hv⟩:=sliceSl_sound (P:=P) (w:=w) hu hz hx h1 h2 h3 (fun s h=>hns s h) e
   exact ⟨r',by simpa [Instr.sliceAt,run_underlying hu] using hrun,hv⟩
 ·rename_i hu
  split at e
  ·rename_i sb
   unfold dP at e
   simp only at e
   split at e
   ·cases e
   ·split at e
    ·rename_i l h m hb
     cases e
     obtain ⟨rfl,rfl,rfl⟩:=bounds_eq h1 h2 h3 hb
     rw [hx.bD rfl]
     exact ⟨_,by simp [Instr.sliceAt,Instr.slice,run_underlying hu,run_bounds (P:=P) (w:=w) hb],.flat rfl⟩
    ·cases e
  ·cases e
 ·cases e
theorem addP_rel {v v' r:Value} {n:Nat} (hv:aA μ v v') (e:aL v n=some r) : ∃ a,v' = .pointer (some a)∧aA μ r (.pointer (some (a.add n))):=by
 unfold aL at e
 split at e
 ·rename_i b off
  cases e
  obtain ⟨L,hL,rfl⟩:=addrOf_rel hv
  refine ⟨_,rfl,?_⟩
  rw [Addr.add_lit]
  have:=aA.ptr (off:=off+n) hL
  rw [←Nat.add_assoc] at this
  exact this
 ·cases e
theorem fieldAt_sound {t:TypeId} {x x' r:Value} {i:Nat} (hx:aA μ x x') (e:fieldAtA P t x i=some r) : ∃ r',(Instr.fieldAt t x' i).run P w = .ok r' w∧aA μ r r':=by
 unfold fieldAtA at e
 split at e
 ·rename_i fs hu
  split at e
  ·rename_i f hf
   split at e
   ·rename_i n hn
    split at e
    ·cases e
    ·rename_i h0
     obtain ⟨a,rfl,hv⟩:=addP_rel hx e
     refine ⟨_,?_,hv⟩
     simp [Instr.fieldAt,run_underlying hu,hf,Instr.sureAddr,fieldPlace,cI w hn,h0]
   ·cases e
  ·cases e
 ·cases e
theorem indexAt_sound {t:TypeId} {x x' ix ix' r:Value} (hx:aA μ x x') (hi:aA μ ix ix') (e:indexAtA P t x ix=some r) : ∃ r',(Instr.indexAt t x' ix').run P w = .ok r' w∧aA μ r r':=by
 unfold indexAtA at e
 split at e
 ·rename_i n el hu
  simp only [Option.bind_eq_some_iff] at e
  obtain ⟨z,hz,e⟩:=e
  unfold bI at e
  split at e
  ·rename_i k i
   rw [hi.int]
   split at e
   ·rename_i hc
    obtain ⟨a,rfl,hv⟩:=addP_rel hx e
    refine ⟨_,?_,hv⟩
    simp [Instr.indexAt,asIntOf,run_underlying hu,Instr.sureAddr,hc,cI w hz]
   ·cases e
  ·cases e
 ·rename_i el hu
  simp only [Option.bind_eq_some_iff] at e
  obtain ⟨z,hz,e⟩:=e
  unfold df at e
  split at e
  ·rename_i b off sp len cap k i
   rw [hi.int]
   split at e
   ·rename_i hc
    cases e
    have main : ∀ (L:Loc) (c':Nat),μ b=some L→x' = .slice (some ⟨L.cx,L.off+off,none⟩) len c' → ∃ r',(Instr.indexAt t x' (.int k i)).run P w = .ok r' w∧aA μ (ptr b (off+i.toNat*z)) r':=by
     rintro L c' hL rfl
     refine ⟨.pointer (some ⟨L.cx,L.off+off+i.toNat*z,none⟩),?_,?_⟩
     ·simp [Instr.indexAt,asIntOf,run_underlying hu,hc,cI w hz,Addr.add_lit]
     ·have:=aA.ptr (off:=off+i.toNat*z) hL
      rw [←Nat.add_assoc] at this
      exact this
    cases hx with
    |flat h=>simp [flat] at h
    |slice h=>exact main _ _ h rfl
    |hid h=>exact main _ _ h rfl
    |hemp h=>simp at hc;omega
    |zer=>simp at hc;omega
   ·cases e
  ·cases e
 ·cases e
theorem part_sound {t:TypeId} {cs cs':Array Value} {off:Nat} {r:Value} (hc:aM μ cs.toList cs'.toList) (e:partA P t cs off=some r) : ∃ r',(part t cs' off).run P w = .ok r' w∧aA μ r r':=by
 unfold partA at e
 split at e
 ·rename_i n ha hs
  cases e
  refine ⟨.agg (cs'.extract off (off+n)),by simp [part,run_aggT w ha,cI w hs],?_⟩
  have:=(hc.drop off).take n
  have e1:cs.extract off (off+n)=((cs.toList.drop off).take n).toArray:=by
   apply Array.ext';simp
  have e2:cs'.extract off (off+n)=((cs'.toList.drop off).take n).toArray:=by
   apply Array.ext';simp
  rw [e1,e2]
  exact .fo this
 ·rename_i n ha hs
  obtain ⟨y,hy,hv⟩:=hc.get (i:=off) (by simpa using e)
  refine ⟨y,?_,hv⟩
  have hy':cs'[off]? = some y:=by simpa using hy
  simp [part,run_aggT w ha,hy']
 ·cases e
theorem field_sound {t:TypeId} {x x' r:Value} {i:Nat} (hx:aA μ x x') (e:fieldA P t x i=some r) : ∃ r',(Instr.field t x' i).run P w = .ok r' w∧aA μ r r':=by
 unfold fieldA at e
 split at e
 ·rename_i fs cs hu
  split at e
  ·rename_i f hf
   obtain ⟨ys,rfl,hl⟩:=hx.agg_iff
   obtain ⟨r',hrun,hv⟩:=part_sound (P:=P) (w:=w) hl e
   exact ⟨r',by simp [Instr.field,run_underlying hu,hf,asAgg,hrun],hv⟩
  ·cases e
 ·cases e
theorem index_sound {t:TypeId} {x x' ix ix' r:Value} (hx:aA μ x x') (hi:aA μ ix ix') (e:indexA P t x ix=some r) : ∃ r',(Instr.index t x' ix').run P w = .ok r' w∧aA μ r r':=by
 unfold indexA at e
 split at e
 ·rename_i n el cs k i hu
  split at e
  ·rename_i hc
   simp only [Option.bind_eq_some_iff] at e
   obtain ⟨z,hz,e⟩:=e
   obtain ⟨ys,rfl,hl⟩:=hx.agg_iff
   rw [hi.int]
   obtain ⟨r',hrun,hv⟩:=part_sound (P:=P) (w:=w) hl e
   exact ⟨r',by simp [Instr.index,asIntOf,run_underlying hu,hc,cI w hz,hrun],hv⟩
  ·cases e
 ·rename_i s k i hu
  split at e
  ·rename_i hc
   simp only [Option.map_eq_some_iff] at e
   obtain ⟨b,hb,rfl⟩:=e
   rw [hi.int,hx.bD rfl]
   exact ⟨_,by simp [Instr.index,asIntOf,run_underlying hu,hc,hb],.flat rfl⟩
  ·cases e
 ·cases e
theorem extract_sound {x x' r:Value} {i:Nat} (hx:aA μ x x') (e:bm x i=some r) : ∃ r',(Instr.extract x' i).run P w = .ok r' w∧aA μ r r':=by
 unfold bm at e
 split at e
 ·rename_i vs
  obtain ⟨ys,rfl,hl⟩:=hx.tuple_iff
  obtain ⟨y,hy,hv⟩:=hl.get (i:=i) (by simpa using e)
  have hy':ys[i]? = some y:=by simpa using hy
  exact ⟨y,by simp [Instr.extract,hy'],hv⟩
 ·cases e
end ops
end Go.Abs

namespace Go.Abs
section ops
variable {P:Program} {μ:Mu} {h:ab} {w:World}
theorem firstA_any {size n:Nat} {x x':Value} {cs:List Value} (s:cg μ h w) (hx:aA μ x x') (e:bc size n x h=some cs) (hn : ∀ m,lenA x=some m→n≤m) (P:Program) :
  ∃ cs',(∀ w',w'.heap=w.heap→(Builtin.firstCells size n x').run P w' = .ok cs'.toArray w')∧aM μ cs cs':=by
 cases x with
 |slice a len cap=>
  obtain ⟨cs',h1,h2,_⟩:=firstA_slice s hx e (hn len rfl) P
  exact ⟨cs',h1,h2⟩
 |string sb=>
  rw [hx.bD rfl]
  simp only [bc,Option.some.injEq] at e
  subst e
  refine ⟨(sb.extract 0 n).data.toList.map fun b => .int .u8 b.toNat,?_,aM.of_flat (by rw [flatAll,List.all_eq_true];intro x hx;obtain ⟨b,_,rfl⟩:=List.mem_map.1 hx;rfl)⟩
  intro w' _
  simp only [Builtin.firstCells,Sem.run_pure]
  congr 1
  apply Array.ext'
  simp
 |_=>simp [bc] at e
theorem run_lenOf {x x':Value} {m:Nat} (hx:aA μ x x') (e:lenA x=some m):(Builtin.lenOf x').run P w = .ok m w:=by
 cases x with
 |slice a len cap=>
  obtain ⟨a',c',rfl,_⟩:=hx.nilslice
  simp only [lenA,Option.some.injEq] at e
  subst e
  simp [Builtin.lenOf]
 |string sb=>
  rw [hx.bD rfl]
  simp only [lenA,Option.some.injEq] at e
  subst e
  simp [Builtin.lenOf]
 |_=>simp [lenA] at e
theorem run_append_in {t tx ty el:TypeId} {i:TypeInfo} {d:TypeDesc} (hu:P.underlying t=some (.slice el)) (hx:P.underlying tx=some d) (hd:isIntT d=false)
  (hi:P.info? el=some i) {base:Option Addr} {len cap m:Nat} {x:Value} (hm:(Builtin.lenOf x).run P w = .ok m w) (hc:len+m≤cap)
  {new:List Value} {w':World} (hf:(Builtin.firstCells i.size m x).run P w = .ok new.toArray w)
  (hs : ∀ a,base=some a→(storeCells (a.add (len*i.size)) new).run P w = .ok () w') (hn:base=none→w'=w) :
  (Builtin.append_ #[t,tx] ty #[.slice base len cap,x]).run P w = .ok (.slice base (len+m) cap) w':=by
 have hz':(match (generalizing:=false) d with | .int _=>true|_=>false)=false:=by cases d<;>first|rfl|(simp [isIntT] at hd;done)
 have e0:(#[t,tx]:Array TypeId)[0]? = some t:=rfl
 have e1:(#[t,tx]:Array TypeId)[1]? = some tx:=rfl
 have e2:(#[.slice base len cap,x]:Array Value)[0]? = some (.slice base len cap):=rfl
 have e3:(#[.slice base len cap,x]:Array Value)[1]? = some x:=rfl
 unfold Builtin.append_
 simp only [e0,e1,e2,e3,Sem.run_bind,run_underlying hu,run_underlying hx,Result.andThen_ok,sizeOf,run_typeInfo w hi,Sem.run_pure,hz',Bool.false_eq_true,if_false,hm,Bool.not_false,if_true]
 split
 ·exact absurd hd (by simp [isIntT])
 ·simp only [Bool.false_eq_true,if_false,Sem.run_bind,hm,Result.andThen_ok,Bool.not_false,if_true,false_or,Sem.run_pure,hc,hf]
  cases base with
  |none=>simp [hn rfl]
  |some a=>simp [hs a rfl]
theorem run_append_out {t tx ty el:TypeId} {i:TypeInfo} {d:TypeDesc} (hu:P.underlying t=some (.slice el)) (hx:P.underlying tx=some d) (hd:isIntT d=false)
  (hi:P.info? el=some i) {base:Option Addr} {len cap m:Nat} {x:Value} (hm:(Builtin.lenOf x).run P w = .ok m w) (hc : ¬len+m≤cap)
  {z:Value} {olds news:List Value} (hz:zeroT P el=some z)
  (hfo:(Builtin.firstCells i.size len (.slice base len cap)).run P w.drew = .ok olds.toArray w.drew)
  (hfn:(Builtin.firstCells i.size m x).run P w.drew = .ok news.toArray w.drew)
  (h63:len+m≤4611686018427387904) (hfit:Builtin.nextslicecap (len+m) cap*i.bytes≤281474976710656) :
  (Builtin.append_ #[t,tx] ty #[.slice base len cap,x]).run P w =
   .ok (.slice (some ⟨w.heap.size,0,none⟩) (len+m) (grownCap w (len+m) cap el))
    { w.drew with heap:=w.heap.push (.cells ((olds++news++(Builtin.zeroCells z.cells (grownCap w (len+m) cap el-(len+m))).toList).toArray) el (0,0)) }:=by
 have hmax:IntKind.i64.max=9223372036854775807:=by decide
 have h1 : ¬(((len+m:Nat):Int)>IntKind.i64.max∧i.bytes=0):=by rw [hmax];omega
 have h2 : ¬(Builtin.nextslicecap (len+m) cap*i.bytes>2^48):=by
  have:(2:Nat)^48=281474976710656:=by decide
  omega
 have hz':(match (generalizing:=false) d with | .int _=>true|_=>false)=false:=by cases d<;>first|rfl|(simp [isIntT] at hd;done)
 have e0:(#[t,tx]:Array TypeId)[0]? = some t:=rfl
 have e1:(#[t,tx]:Array TypeId)[1]? = some tx:=rfl
 have e2:(#[.slice base len cap,x]:Array Value)[0]? = some (.slice base len cap):=rfl
 have e3:(#[.slice base len cap,x]:Array Value)[1]? = some x:=rfl
 unfold Builtin.append_
 simp only [e0,e1,e2,e3,Sem.run_bind,run_underlying hu,run_underlying hx,Result.andThen_ok,sizeOf,run_typeInfo w hi,Sem.run_pure,hz',Bool.false_eq_true,if_false,hm,Bool.not_false,if_true]
 split
 ·exact absurd hd (by simp [isIntT])
 ·simp only [Bool.false_eq_true,if_false,Sem.run_bind,hm,Result.andThen_ok,Bool.not_false,if_true,false_or,Sem.run_pure,hc,run_typeInfo w hi]
  rw [if_neg h1]
  simp only [Sem.run_bind,run_typeInfo w hi,Result.andThen_ok]
  rw [if_neg h2]
  simp only [Sem.run_bind,Sem.run_pure,Result.andThen_ok,run_choose,Question.forced,Bool.false_eq_true,if_false,run_askRoom]
  have hdr:({ w with drawn:=w.drawn+1 }:World)=w.drew:=rfl
  rw [hdr]
  simp only [run_typeInfo w.drew hi,Result.andThen_ok,run_askRoom]
  rw [hfo]
  simp only [Result.andThen_ok]
  rw [hfn]
  simp only [Result.andThen_ok,eV w.drew hz,Go.newRow,Sem.run_bind,run_newObj,Sem.run_pure,grownCap]
  have:olds.toArray++news.toArray++Builtin.zeroCells z.cells ((Question.appendCap (len+m) cap el).cut (w.tape w.drawn (Question.appendCap (len+m) cap el))-(len+m)) =
    (olds++news++(Builtin.zeroCells z.cells ((Question.appendCap (len+m) cap el).cut (w.tape w.drawn (Question.appendCap (len+m) cap el))-(len+m))).toList).toArray:=by
   apply Array.ext';simp
  rw [this]
  rfl
theorem grow_sound {z:Value} {size c:Nat} {el:TypeId} {olds news olds' news':List Value} {n:Nat} (s:cg μ h w) (hf:eH μ h (h.alloc (olds++news))) (ho:aM μ olds olds') (hn:aM μ news news')
  (hzs:z.cells.size=size) (hpos:0<size) (hlen:olds.length+news.length=n*size) (hc:n≤c) (hcm:c≤maxLen) :
  ∃ μ' w',w'={ w.drew with heap:=w.heap.push (.cells ((olds'++news'++(Builtin.zeroCells z.cells (c-n)).toList).toArray) el (0,0)) } ∧
    cg μ' (h.alloc (olds++news)) w'∧Step μ h w μ' (h.alloc (olds++news)) w'∧aA μ' (.slice (some ⟨h.next,0,some size⟩) n n) (.slice (some ⟨w.heap.size,0,none⟩) n c):=by
 have hl:=ho.1
 have hl':=hn.1
 have hzc:(Builtin.zeroCells z.cells (c-n)).size=(c-n)*size:=by rw [size_zeroCells,hzs]
 have hsz:((olds'++news'++(Builtin.zeroCells z.cells (c-n)).toList).toArray).size=c*size:=by
  simp only [List.size_toArray,List.length_append,Array.length_toList,hzc,←hl,←hl',hlen,←Nat.add_mul]
  congr 1;omega
 have hnc:n*size≤c*size:=Nat.mul_le_mul_right _ hc
 obtain ⟨hS,hSt⟩:=s.alloc (k:=olds++news) hf (arr:=(olds'++news'++(Builtin.zeroCells z.cells (c-n)).toList).toArray) (T:=el) (fr:=(0,0)) (.inl rfl)
  (by rw [hsz,List.length_append,hlen];exact hnc)
  (by
   have:(olds++news).length=(olds'++news').length:=by simp [hl,hl']
   rw [this,List.take_left];exact ho.append hn)
  (w1:={ w.drew with heap:=w.heap.push (.cells ((olds'++news'++(Builtin.zeroCells z.cells (c-n)).toList).toArray) el (0,0)) }) rfl rfl rfl rfl
 refine ⟨_,_,rfl,hS,hSt,?_⟩
 have:=aA.hid (b:=h.next) (off:=0) (len:=n) (cap:=n) (cap':=c) (s:=size) (Mu.cf μ h.next ⟨w.heap.size,0,((olds'++news'++(Builtin.zeroCells z.cells (c-n)).toList).toArray).size,(olds++news).length⟩) (Nat.le_refl _) hc hcm
  (by simp only [List.length_append,hlen,Nat.zero_add]) (by simp only [hsz];omega)
 simpa using this
theorem cg.regrow {b off n1:Nat} {k:Blk} {L:Loc} {news news':List Value} (s:cg μ h w) (hb:h.n0≤b) (hg:h.get b=some k) (hL:μ b=some L) (h1:off+n1≤k.length)
  (hx:aM μ news news') (hone:aJ news=true) (hext:L.off+off+n1+news.length≤L.ext) (hf:eH μ h ((h.kill b).alloc ((k.drop off).take n1++news))) :
  ∃ μ' w',(Go.storeCells ⟨L.cx,L.off+off+n1,none⟩ news').run P w = .ok () w'∧cg μ' ((h.kill b).alloc ((k.drop off).take n1++news)) w'∧Step μ h w μ' ((h.kill b).alloc ((k.drop off).take n1++news)) w' ∧
    μ' h.next=some ⟨L.cx,L.off+off,L.ext,n1+news.length⟩:=by
 obtain ⟨L',arr,T,fr,e1,e2,e4,e5,e6,e7,e8,e9⟩:=s.new b k hb hg
 rw [hL] at e1;cases e1
 have hal:arr.toList.length=arr.size:=Array.length_toList
 have hlt:=h.aP hg
 have hnl:news'.length=news.length:=hx.1.symm
 have hnone:μ h.next=none:=hf _ (Nat.le_refl _) (by simp)
 have hm:=Mu.put_mono (L:=⟨L.cx,L.off+off,L.ext,n1+news.length⟩) hnone
 have hget : ∀ c kc,((h.kill b).alloc ((k.drop off).take n1++news)).get c=some kc→(c=h.next∧kc=(k.drop off).take n1++news)∨(c≠h.next∧c≠b∧h.get c=some kc):=by
  intro c kc hc
  rw [ab.aK,ab.gA] at hc
  by_cases ec:c=h.next
  ·rw [if_pos ec] at hc;cases hc;exact .inl ⟨ec,rfl⟩
  ·rw [if_neg ec] at hc
   unfold ab.kill at hc
   rw [h.get_put hb hlt] at hc
   by_cases eb:c=b
   ·rw [if_pos eb] at hc;cases hc
   ·rw [if_neg eb] at hc;exact .inr ⟨ec,eb,hc⟩
 have hgetB : ∀ c kc,((h.kill b).alloc ((k.drop off).take n1++news)).aF c=some kc→(c=h.next∧kc = .cells ((k.drop off).take n1++news))∨(c≠h.next∧c≠b∧h.aF c=some kc):=by
  intro c kc hc
  rw [ab.cA,ab.gA] at hc
  by_cases ec:c=h.next
  ·rw [if_pos ec] at hc;cases hc;exact .inl ⟨ec,rfl⟩
  ·rw [if_neg ec] at hc
   unfold ab.kill at hc
   rw [h.cM hb hlt] at hc
   by_cases eb:c=b
   ·rw [if_pos eb] at hc;cases hc
   ·rw [if_neg eb] at hc;exact .inr ⟨ec,eb,hc⟩
 have hB:(w.setRow L.cx (bK arr.toList (L.off+off+n1) news').toArray).heap[L.cx]? = some (.cells (bK arr.toList (L.off+off+n1) news').toArray T fr):=setRow_heap w L.cx arr _ T fr e4
 have hsz:((bK arr.toList (L.off+off+n1) news').toArray).size=arr.size:=by
  rw [List.size_toArray,length_splice (by omega),hal]
 refine ⟨μ.put h.next ⟨L.cx,L.off+off,L.ext,n1+news.length⟩,w.setRow L.cx (bK arr.toList (L.off+off+n1) news').toArray,?_,⟨?_,?_,?_,?_,?_,fun b hb=>by obtain ⟨L,h1,h2⟩:=s.low b hb;exact ⟨L,hm _ _ h1,h2⟩⟩,⟨?_,rfl,rfl,by simp,rfl,rfl,rfl,by simp [World.setRow],?_,?_,fun B r hB=>⟨r,by rw [setRow_other _ _ _ _ (by rintro rfl;rw [e4] at hB;cases hB)];exact hB⟩,Nat.le_refl _⟩,Mu.cf _ _ _⟩
 ·have:=eI P L.cx (L.off+off+n1) T fr news' 0 arr w e4 e7 (by omega) (hx.aJ hone)
  simpa using this
 ·intro c cs hc hcs
  obtain ⟨L2,a2,T2,f2,g1,g2,g3,g4,g5⟩:=s.bS c cs (by simpa using hc) hcs
  refine ⟨L2,a2,T2,f2,hm _ _ g1,g2,g3,?_,g5.mono hm⟩
  rw [setRow_other _ _ _ _ (by simp at hc;omega)];exact g4
 ·intro c kc hc hgc
  rcases hget c kc hgc with ⟨rfl,rfl⟩|⟨n1',n2',hgc'⟩
  ·refine ⟨_,_,T,fr,Mu.cf _ _ _,?_,hB,hsz.trans e5,?_,by rw [hsz];exact e7,by simpa using e8,?_⟩
   ·simp only [List.length_append,List.length_take,List.length_drop];omega
   ·simp only;omega
   ·simp only
    have hr:=(e9.drop off).take n1
    rw [List.drop_take,List.drop_drop,List.take_take,show min n1 (L.len-off)=n1 from by omega] at hr
    have:((bK arr.toList (L.off+off+n1) news').drop (L.off+off)).take (n1+news.length)=(arr.toList.drop (L.off+off)).take n1++news':=by
     unfold bK
     have e1:(arr.toList.take (L.off+off+n1)).drop (L.off+off)=(arr.toList.drop (L.off+off)).take n1:=by rw [List.drop_take];congr 1;omega
     rw [List.append_assoc,List.drop_append_of_le_length (by simp;omega),e1,←List.append_assoc]
     exact List.take_left' (by simp;omega)
    rw [this]
    exact (hr.append hx).mono hm
  ·obtain ⟨L2,a2,T2,f2,g1,g2,g4,g5,g6,g7,g8,g9⟩:=s.new c kc hc hgc'
   refine ⟨L2,a2,T2,f2,hm _ _ g1,g2,?_,g5,g6,g7,g8,g9.mono hm⟩
   rw [setRow_other _ _ _ _ (s.inj c b _ _ L2 L hc hb n2' (h.aT hgc') (h.aT hg) g1 hL)];exact g4
 ·intro c o hc hgc
  rcases hgetB c _ hgc with ⟨rfl,e⟩|⟨n1',n2',hgc'⟩
  ·cases e
  ·obtain ⟨L2,ob,g1,g2,g3,g4⟩:=s.obj c o hc hgc'
   exact ⟨L2,ob,hm _ _ g1,by rw [setRow_other _ _ _ _ (s.inj c b _ _ L2 L hc hb n2' hgc' (h.aT hg) g1 hL)];exact g2,g3.mono hm,g4⟩
 ·intro c c' kc kc' Lc Lc' hc hc' hne hgc hgc' h2 h3
  have hg:=h.aT hg
  rcases hgetB c kc hgc with ⟨rfl,rfl⟩|⟨n1',n2',g1⟩
  ·rw [Mu.cf] at h2;cases h2
   rcases hgetB c' kc' hgc' with ⟨rfl,rfl⟩|⟨m1,m2,g2⟩
   ·exact absurd rfl hne
   ·rw [Mu.cH _ _ m1] at h3
    exact s.inj b c' _ kc' L Lc' hb hc' (Ne.symm m2) hg g2 hL h3
  ·rw [Mu.cH _ _ n1'] at h2
   rcases hgetB c' kc' hgc' with ⟨rfl,rfl⟩|⟨m1,m2,g2⟩
   ·rw [Mu.cf] at h3;cases h3
    exact s.inj c b kc _ Lc L hc hb n2' g1 hg h2 hL
   ·rw [Mu.cH _ _ m1] at h3
    exact s.inj c c' kc kc' Lc Lc' hc hc' hne g1 g2 h2 h3
 ·simpa [World.setRow] using s.size
 ·intro c hc
  rw [Mu.cH _ _ (by simp at hc;omega)]
 ·intro B hB' hO
  exact setRow_other _ _ _ _ (fun e=>hO ⟨b,_,L,hb,h.aT hg,hL,e.symm⟩)
 ·rintro B ⟨c,kc,Lc,hc,hgc,h2,rfl⟩
  rcases hgetB c kc hgc with ⟨rfl,rfl⟩|⟨n1',n2',g1⟩
  ·rw [Mu.cf] at h2;cases h2;exact .inl ⟨b,_,L,hb,h.aT hg,hL,rfl⟩
  ·rw [Mu.cH _ _ n1'] at h2;exact .inl ⟨c,kc,Lc,hc,g1,h2,rfl⟩
theorem append_sound {t tx ty el:TypeId} {d:TypeDesc} {size by_:Nat} {z s s' x x' r:Value} {h':ab} (hu:P.underlying t=some (.slice el)) (htx:P.underlying tx=some d) (hd:isIntT d=false)
  (hsz:cz P el=some size) (hby:bytesT P el=some by_) (hz:zeroT P el=some z) (hzs:z.cells.size=size) (hpos:0<size)
  (S:cg μ h w) (hf:eH μ h h') (hs:aA μ s s') (hx:aA μ x x') (e:aD size by_ s x h=some (r,h')) :
  ∃ μ' r' w',(Builtin.append_ #[t,tx] ty #[s',x']).run P w = .ok r' w'∧cg μ' h' w'∧Step μ h w μ' h' w'∧aA μ' r r':=by
 obtain ⟨i,hi,hin⟩:=info_of_sizeT hsz
 have hib:i.bytes=by_:=by simp only [bytesT,hi,Option.map_some,Option.some.injEq] at hby;exact hby
 subst hin hib
 unfold aD at e
 split at e
 ·rename_i base len cap m hm
  have hlen:=run_lenOf (P:=P) (w:=w) hx hm
  split at e
  ·cases e
  ·rename_i news hnews
   split at e
   ·cases e
   ·rename_i hcond
    simp only [Bool.or_eq_true,Bool.not_eq_true',decide_eq_true_eq,not_or,Bool.not_eq_false,decide_eq_false_iff_not,Decidable.not_not,ne_eq] at hcond
    obtain ⟨⟨⟨hone,hbytes⟩,h62⟩,hnl⟩:=hcond
    have hle : ∀ m',lenA x=some m'→m≤m':=by intro m' h;rw [hm] at h;cases h;exact Nat.le_refl _
    obtain ⟨news',hrn,hrel⟩:=firstA_any S hx hnews hle P
    have place : ∀ {b off:Nat} {h1:ab} {L:Loc} {c':Nat},μ b=some L→stL b (off+len*i.size) news h=some h1→s' = .slice (some ⟨L.cx,L.off+off,none⟩) len c'→len+m≤c' →
      ∃ w',(Builtin.append_ #[t,tx] ty #[s',x']).run P w = .ok (.slice (some ⟨L.cx,L.off+off,none⟩) (len+m) c') w'∧cg μ h1 w'∧Step μ h w μ h1 w':=by
     intro b off h1 L c' hL hst hs' hc
     subst hs'
     obtain ⟨L',w',hL',hrun,hS,hSt⟩:=stL_sound (P:=P) S hrel hst
     rw [hL] at hL';cases hL'
     refine ⟨w',run_append_in hu htx hd hi hlen hc (hrn w rfl) ?_ (by intro h;cases h),hS,hSt⟩
     intro a ha
     cases ha
     rw [Addr.add_lit,Nat.add_assoc];exact hrun
    have grow : ∀ {olds olds':List Value} {h1:ab} {base':Option Addr} {c':Nat},cg μ h1 w→eH μ h1 (h1.alloc (olds++news))→olds.length=len*i.size→aM μ olds olds' →
      (∀ w',w'.heap=w.heap→(Builtin.firstCells i.size len (.slice base' len c')).run P w' = .ok olds'.toArray w')→s' = .slice base' len c' → ¬len+m≤c' →
      ∃ μ' r' w',(Builtin.append_ #[t,tx] ty #[s',x']).run P w = .ok r' w'∧cg μ' (h1.alloc (olds++news)) w'∧Step μ h1 w μ' (h1.alloc (olds++news)) w' ∧
        aA μ' (.slice (some ⟨h1.next,0,some i.size⟩) (len+m) (len+m)) r':=by
     intro olds olds' h1 base' c' S1 hf1 hol horel hro hs' hc
     subst hs'
     have hfit:Builtin.nextslicecap (len+m) c'*i.bytes≤281474976710656:=growslice_fits (by omega) hbytes
     have hrun:=run_append_out (ty:=ty) hu htx hd hi hlen hc hz (hro w.drew rfl) (hrn w.drew rfl) h62 hfit
     obtain ⟨μ',w',hw',hS,hSt,hv⟩:=grow_sound (z:=z) (size:=i.size) (c:=grownCap w (len+m) c' el) (el:=el) (n:=len+m) S1 hf1 horel hrel hzs hpos
      (by rw [hol,hnl,Nat.add_mul]) (grownCap_ge w (len+m) c' el) (grownCap_le_maxLen w (len+m) c' el (by unfold maxLen;omega))
     exact ⟨μ',_,w',by rw [hrun,hw'],hS,hSt,hv⟩
    split at e
    ·rename_i hroom
     split at e
     ·rename_i hm0
      subst hm0
      cases e
      have hn0:news' = []:=by
       have:=hrel.1
       simp only [hnl,Nat.zero_mul] at this
       exact List.eq_nil_of_length_eq_zero this.symm
      subst hn0
      have fin : ∀ (b':Option Addr) (c':Nat),s' = .slice b' len c'→cap≤c' → ∃ μ' r' w',(Builtin.append_ #[t,tx] ty #[s',x']).run P w = .ok r' w'∧cg μ' h w'∧Step μ h w μ' h w'∧aA μ' (.slice base len cap) r':=by
       rintro b' c' rfl hc
       refine ⟨μ,.slice b' (len+0) c',w,run_append_in hu htx hd hi hlen (by omega) (hrn w rfl) (fun a _=>rfl) (fun _=>rfl),S,.bV,hs⟩
      cases hs with
      |flat h=>exact fin _ _ rfl (Nat.le_refl _)
      |slice h=>exact fin _ _ rfl (Nat.le_refl _)
      |hid h _ hc=>exact fin _ _ rfl hc
      |hemp h=>exact fin _ _ rfl (Nat.le_refl _)
      |zer=>exact fin _ _ rfl (Nat.le_refl _)
     ·rename_i hm0
      split at e
      ·rename_i b off sp
       simp only [Option.map_eq_some_iff,Prod.mk.injEq] at e
       obtain ⟨h1,hst,rfl,rfl⟩:=e
       cases hs with
       |flat h=>simp [flat] at h
       |slice hL=>
        obtain ⟨w',hrun,hS,hSt⟩:=place hL hst rfl hroom
        exact ⟨μ,_,w',hrun,hS,hSt,.slice hL⟩
       |hid hL hl hc hmx g1 g2=>
        obtain ⟨w',hrun,hS,hSt⟩:=place hL hst rfl (by omega)
        exact ⟨μ,_,w',hrun,hS,hSt,.hid hL hroom hc hmx g1 g2⟩
       |hemp hL=>omega
       |zer=>omega
      ·cases e
    ·rename_i hroom
     split at e
     ·split at e
      ·rename_i h0
       subst h0
       simp only [Option.some.injEq,Prod.mk.injEq] at e
       obtain ⟨rfl,rfl⟩:=e
       have hs':=hs.bD rfl
       have:=grow (olds := []) (olds' := []) (h1:=h) S (by simpa using hf) (by simp) (aM.nil μ) (by intro w' _;simp [Builtin.firstCells]) hs' hroom
       simpa using this
      ·cases e
     ·rename_i b off sp
      split at e
      ·cases e
      ·rename_i olds holds
       split at e
       ·cases e
       ·rename_i hol
        have hol':olds.length=len*i.size:=Decidable.not_not.1 hol
        obtain ⟨olds',hro,horel⟩:=firstA_any S hs holds (by intro m' h;cases h;exact Nat.le_refl _) P
        split at e
        ·simp only [Option.some.injEq,Prod.mk.injEq] at e
         obtain ⟨rfl,rfl⟩:=e
         cases hs with
         |flat h=>simp [flat] at h
         |slice hL=>exact grow S hf hol' horel hro rfl hroom
        ·rename_i zz
         split at e
         ·rename_i hc
          simp only [Bool.and_eq_true,decide_eq_true_eq] at hc
          obtain ⟨⟨rfl,hb⟩,hlive⟩:=hc
          obtain ⟨k,hk⟩:=Option.isSome_iff_exists.1 hlive
          simp only [Option.some.injEq,Prod.mk.injEq] at e
          obtain ⟨rfl,rfl⟩:=e
          obtain ⟨S1,St1⟩:=S.kill hb (h.aP hk)
          have hf1:eH μ (h.kill b) ((h.kill b).alloc (olds++news)):=hf
          generalize hq:i.size=q at hs
          cases hs with
          |flat h=>simp [flat] at h
          |zer=>omega
          |hid hL hl hc hmx g1 g2=>
           rename_i cap' L
           subst hq
           by_cases hin:len+m≤cap'
           ·have hkl:L.len=k.length:=by
             obtain ⟨L',arr,T,fr,e1,e2,_⟩:=S.new b k hb hk
             rw [hL] at e1;cases e1;exact e2
            have hls:len*i.size≤cap*i.size:=Nat.mul_le_mul_right _ hl
            have hms:(len+m)*i.size≤cap'*i.size:=Nat.mul_le_mul_right _ hin
            have hadd:(len+m)*i.size=len*i.size+m*i.size:=Nat.add_mul _ _ _
            have holds':olds=(k.drop off).take (len*i.size):=by
             unfold bc at holds
             simp only [hk] at holds
             split at holds
             ·rename_i h0;cases holds;rw [h0];rfl
             ·split at holds
              ·cases holds;rfl
              ·cases holds
            subst holds'
            obtain ⟨μ',w',hrun,hS,hSt,hμ⟩:=S.regrow (P:=P) (off:=off) (n1:=len*i.size) hb hk hL (by omega) hrel hone (by omega) hf
            refine ⟨μ',.slice (some ⟨L.cx,L.off+off,none⟩) (len+m) cap',w',run_append_in hu htx hd hi hlen hin (hrn w rfl) ?_ (by intro h;cases h),hS,hSt,?_⟩
            ·intro a ha
             cases ha
             rw [Addr.add_lit];exact hrun
            ·have:=aA.hid (μ:=μ') (b:=h.next) (off:=0) (len:=len+m) (cap:=len+m) (cap':=cap') (s:=i.size) hμ (Nat.le_refl _) hin hmx (by simp only;omega) (by simp only;omega)
             simpa using this
           ·obtain ⟨μ',r',w',hrun,hS,hSt,hv⟩:=grow S1 hf1 hol' horel hro rfl hin
            exact ⟨μ',r',w',hrun,hS,St1.trans hSt,hv⟩
          |hemp hL=>
           subst hq
           obtain ⟨μ',r',w',hrun,hS,hSt,hv⟩:=grow S1 hf1 hol' horel hro rfl (by omega)
           exact ⟨μ',r',w',hrun,hS,St1.trans hSt,hv⟩
         ·cases e
 ·cases e
theorem copy_sound {dT sT ty el:TypeId} {size:Nat} {d d' s s' r:Value} {h':ab} (hu:P.underlying dT=some (.slice el)) (hsz:cz P el=some size)
  (S:cg μ h w) (hd:aA μ d d') (hs:aA μ s s') (e:copyA size d s h=some (r,h')) :
  ∃ w',(Builtin.copy_ #[dT,sT] ty #[d',s']).run P w = .ok r w'∧cg μ h' w'∧Step μ h w μ h' w' ∧ ∃ n:Nat,r = .int .i64 n:=by
 unfold copyA at e
 split at e
 ·rename_i base dLen dCap m hm
  have hlen:=run_lenOf (P:=P) (w:=w) hs hm
  simp only at e
  split at e
  ·cases e
  ·rename_i news hnews
   obtain ⟨news',hrn,hrel⟩:=firstA_any S hs hnews (by intro m' h;rw [hm] at h;cases h;exact Nat.min_le_left _ _) P
   obtain ⟨b',c',rfl,hb'⟩:=hd.nilslice
   have head : ∀ w',(∀ a,b'=some a→(storeCells a news').run P w = .ok () w')→(b'=none→w'=w) →
     (Builtin.copy_ #[dT,sT] ty #[.slice b' dLen c',s']).run P w = .ok (.int .i64 (min m dLen:Nat)) w':=by
    intro w' hs hn
    have e0:(#[dT,sT]:Array TypeId)[0]? = some dT:=rfl
    have e2:(#[.slice b' dLen c',s']:Array Value)[0]? = some (.slice b' dLen c'):=rfl
    have e3:(#[.slice b' dLen c',s']:Array Value)[1]? = some s':=rfl
    unfold Builtin.copy_
    simp only [e0,e2,e3,Sem.run_bind,run_underlying hu,Result.andThen_ok,hlen,cI w hsz,Nat.min_def]
    have hrn0:=hrn w rfl
    rw [Nat.min_def] at hrn0
    rw [hrn0]
    cases b' with
    |none=>simp [hn rfl,goInt]
    |some a=>simp [hs a rfl,goInt]
   split at e
   ·rename_i h0
    cases e
    have hn0:news' = []:=by
     have h1:=hrel.1
     have:news = []:=by
      unfold bc at hnews
      rw [h0] at hnews
      split at hnews
      ·simpa using hnews.symm
      ·simpa using hnews.symm
      ·simp only [Option.some.injEq] at hnews
       rw [←hnews]
       simp
      ·cases hnews
     subst this
     exact List.eq_nil_of_length_eq_zero h1.symm
    subst hn0
    exact ⟨w,head w (fun _ _=>rfl) (fun _=>rfl),S,.bV,_,rfl⟩
   ·rename_i h0
    split at e
    ·cases e
    ·rename_i b off sp
     simp only [Option.map_eq_some_iff,Prod.mk.injEq] at e
     obtain ⟨h1,hst,rfl,rfl⟩:=e
     obtain ⟨L,w',hL,hrun,hS,hSt⟩:=stL_sound (P:=P) S hrel hst
     have hb2:b'=some ⟨L.cx,L.off+off,none⟩:=by
      cases hd with
      |flat h=>simp [flat] at h
      |slice h=>rw [h] at hL;cases hL;rfl
      |hid h=>rw [h] at hL;cases hL;rfl
      |hemp h=>simp at h0
      |zer=>simp at h0
     refine ⟨w',head w' ?_ (by intro h;rw [hb2] at h;cases h),hS,hSt,_,rfl⟩
     intro a ha
     rw [hb2] at ha;cases ha;exact hrun
 ·cases e
theorem clear_sound {t ty el:TypeId} {size:Nat} {d d' r:Value} {h':ab} (hu:P.underlying t=some (.slice el))
  (S:cg μ h w) (hd:aA μ d d') (e:clearA P el size d h=some (r,h')) :
  ∃ w',(Builtin.clear_ #[t] ty #[d']).run P w = .ok r w'∧cg μ h' w'∧Step μ h w μ h' w'∧r=undef:=by
 have e0:(#[t]:Array TypeId)[0]? = some t:=rfl
 have e2 : ∀ v:Value,(#[v]:Array Value)[0]? = some v:=fun _=>rfl
 unfold clearA at e
 split at e
 ·cases e
  rw [hd.bD rfl]
  refine ⟨w,?_,S,.bV,rfl⟩
  simp [Builtin.clear_,run_underlying hu,undef]
 ·rename_i b off sp n c
  split at e
  ·rename_i h0
   subst h0
   cases e
   obtain ⟨b',c',rfl,hb'⟩:=hd.nilslice
   refine ⟨w,?_,S,.bV,rfl⟩
   cases b'<;>simp [Builtin.clear_,run_underlying hu,undef]
  ·rename_i h0
   split at e
   ·rename_i z hz
    split at e
    ·rename_i hc
     simp only [Bool.and_eq_true,decide_eq_true_eq] at hc
     obtain ⟨⟨hfl,hzn⟩,hpos⟩:=hc
     simp only [Option.map_eq_some_iff,Prod.mk.injEq] at e
     obtain ⟨h1,hst,rfl,rfl⟩:=e
     have hzz:(Builtin.zeroCells z.cells n).toList=dx z.cells.toList n:=by
      rw [←range_zeros z.cells (by omega)]
      simp [Builtin.zeroCells]
     obtain ⟨L,w',hL,hrun,hS,hSt⟩:=stL_sound (P:=P) S (aM.of_flat (μ:=μ) (l:=dx z.cells.toList n) (by
       simp only [flatAll,List.all_eq_true,dx,List.mem_flatMap] at hfl ⊢
       rintro x ⟨_,_,hx⟩;exact hfl x hx)) hst
     have hb2 : ∃ c',d' = .slice (some ⟨L.cx,L.off+off,none⟩) n c':=by
      cases hd with
      |flat h=>simp [flat] at h
      |slice h=>rw [h] at hL;cases hL;exact ⟨_,rfl⟩
      |hid h=>rw [h] at hL;cases hL;exact ⟨_,rfl⟩
      |hemp h=>exact absurd rfl h0
      |zer=>exact absurd rfl h0
     obtain ⟨c',rfl⟩:=hb2
     refine ⟨w',?_,hS,hSt,rfl⟩
     obtain ⟨n,rfl⟩ : ∃ n',n=n'+1:=⟨n-1,by omega⟩
     unfold Builtin.clear_
     simp only [e0,e2,Sem.run_bind,run_underlying hu,Result.andThen_ok,eV w hz,hzz,hrun,Sem.run_pure]
     rfl
    ·cases e
   ·cases e
 ·cases e
theorem len_sound {t ty:TypeId} {x x' r:Value} (hx:aA μ x x') (e:lenOfT P t x=some r):(Builtin.len_ #[t] ty #[x']).run P w = .ok r w∧flat r=true:=by
 unfold lenOfT at e
 split at e
 ·rename_i hu;cases e;rw [hx.bD rfl];exact ⟨by simp [Builtin.len_,run_underlying hu,goInt],rfl⟩
 ·rename_i n el _ _ hu;cases e;exact ⟨by simp [Builtin.len_,run_underlying hu,goInt],rfl⟩
 ·rename_i arr hu
  split at e
  ·rename_i ha;cases e;exact ⟨by simp [Builtin.len_,run_underlying hu,run_underlying ha,goInt],rfl⟩
  ·cases e
 ·rename_i hu
  cases e
  obtain ⟨b',c',rfl,_⟩:=hx.nilslice
  exact ⟨by simp [Builtin.len_,run_underlying hu,goInt],rfl⟩
 ·cases e
theorem max_fold : ∀ (l:List Value) (v r:Value),eY true v l=some r→(l.foldlM Builtin.max2 v).run P w = .ok r w∧(flatAll l=true→flat v=true→flat r=true)
 | [],v,r,e=>by cases e;exact ⟨rfl,fun _ h=>h⟩
 |x::l,v,r,e=>by
  unfold eY at e
  split at e
  ·rename_i h;cases h
  ·rename_i k a k' b rest heq
   cases heq
   split at e
   ·rename_i hk
    subst hk
    obtain ⟨h1,h2⟩:=max_fold l _ r e
    refine ⟨?_,fun hl _=>h2 ?_ rfl⟩
    ·simp only [List.foldlM_cons,Sem.run_bind,Builtin.max2,Sem.run_pure,Result.andThen_ok]
     simpa using h1
    ·simp only [flatAll,List.all_cons,Bool.and_eq_true] at hl ⊢;exact hl.2
   ·cases e
  ·cases e
theorem min_fold : ∀ (l:List Value) (v r:Value),eY false v l=some r→(l.foldlM Builtin.min2 v).run P w = .ok r w∧(flatAll l=true→flat v=true→flat r=true)
 | [],v,r,e=>by cases e;exact ⟨rfl,fun _ h=>h⟩
 |x::l,v,r,e=>by
  unfold eY at e
  split at e
  ·rename_i h;cases h
  ·rename_i k a k' b rest heq
   cases heq
   split at e
   ·rename_i hk
    subst hk
    obtain ⟨h1,h2⟩:=min_fold l _ r e
    refine ⟨?_,fun hl _=>h2 ?_ rfl⟩
    ·simp only [List.foldlM_cons,Sem.run_bind,Builtin.min2,Sem.run_pure,Result.andThen_ok]
     simpa using h1
    ·simp only [flatAll,List.all_cons,Bool.and_eq_true] at hl ⊢;exact hl.2
   ·cases e
  ·cases e
theorem minmax_ints : ∀ {mx:Bool} {l:List Value} {v r:Value},eY mx v l=some r→l ≠ []→flatAll (v::l)=true∧flat r=true
 |mx,[],v,r,e,h=>absurd rfl h
 |mx,x::l,v,r,e,_=>by
  unfold eY at e
  split at e
  ·rename_i h;cases h
  ·rename_i k a k' b rest heq
   cases heq
   split at e
   ·cases l with
    |nil=>cases e;exact ⟨rfl,rfl⟩
    |cons y l=>
     obtain ⟨h1,h2⟩:=minmax_ints e (by simp)
     simp only [flatAll,List.all_cons,Bool.and_eq_true] at h1 ⊢
     exact ⟨⟨rfl,rfl,h1.2⟩,h2⟩
   ·cases e
  ·cases e
end ops
end Go.Abs

namespace Go.Abs
def bdF (n:Nat):Fn→Bool
 | .yield l=>decide (l<n)
 |_=>true
theorem bdF_mono {n m:Nat} (h:n≤m) {f:Fn} (e:bdF n f=true):bdF m f=true:=by
 cases f with
 |yield l=>simp only [bdF,decide_eq_true_eq] at e ⊢;omega
 |_=>rfl
mutual
def bW (n:Nat):Value→Bool
 | .pointer (some a)=>a.block<n
 | .slice (some a) _ _=>a.block<n
 | .map (some b)=>b<n
 | .agg ⟨l⟩=>cC n l
 | .tuple ⟨l⟩=>cC n l
 | .func f ⟨l⟩ ⟨r⟩=>bdF n f&&(cC n l&&cC n r)
 | .iface _ v=>bW n v
 |_=>true
def cC (n:Nat):List Value→Bool
 | []=>true
 |v::l=>bW n v&&cC n l
end
theorem dr {n:Nat} : ∀ {l:List Value},cC n l=true ↔ ∀ x∈l,bW n x=true
 | []=>by simp [cC]
 |v::l=>by simp [cC,dr (l:=l)]
mutual
theorem bdV_mono {n m:Nat} (h:n≤m) : ∀ {v:Value},bW n v=true→bW m v=true
 | .pointer none,_=>rfl
 | .pointer (some a),e=>by simp only [bW,decide_eq_true_eq] at e ⊢;omega
 | .slice none _ _,_=>rfl
 | .slice (some a) _ _,e=>by simp only [bW,decide_eq_true_eq] at e ⊢;omega
 | .map none,_=>rfl
 | .map (some _),e=>by simp only [bW,decide_eq_true_eq] at e ⊢;omega
 | .chan none,_=>rfl
 | .chan (some _),e=>rfl
 | .agg ⟨l⟩,e=>by simp only [bW] at e ⊢;exact bR h e
 | .tuple ⟨l⟩,e=>by simp only [bW] at e ⊢;exact bR h e
 | .func _ ⟨l⟩ ⟨r⟩,e=>by
   simp only [bW,Bool.and_eq_true] at e ⊢
   exact ⟨bdF_mono h e.1,bR h e.2.1,bR h e.2.2⟩
 | .iface _ v,e=>by simp only [bW] at e ⊢;exact bdV_mono h e
 | .bool _,_=>rfl
 | .int _ _,_=>rfl
 | .float _ _,_=>rfl
 | .complex _ _ _,_=>rfl
 | .string _,_=>rfl
 | .nilFunc,_=>rfl
 | .nilIface,_=>rfl
theorem bR {n m:Nat} (h:n≤m) : ∀ {l:List Value},cC n l=true→cC m l=true
 | [],_=>rfl
 |v::l,e=>by
  simp only [cC,Bool.and_eq_true] at e ⊢
  exact ⟨bdV_mono h e.1,bR h e.2⟩
end
theorem bdV_flat {n:Nat} {v:Value} (h:flat v=true):bW n v=true:=by
 cases v with
 |pointer a=>cases a<;>first|rfl|(simp [flat] at h)
 |slice a=>cases a<;>first|rfl|(simp [flat] at h)
 |map a=>cases a<;>first|rfl|(simp [flat] at h)
 |chan a=>cases a<;>first|rfl|(simp [flat] at h)
 |func f a b=>
  cases f<;>simp [flat] at h
  obtain ⟨rfl,rfl⟩:=h
  rfl
 |agg a=>simp [flat] at h
 |tuple a=>simp [flat] at h
 |iface t v=>simp [flat] at h
 |_=>rfl
theorem dE {n:Nat} {l:List Value} (h:flatAll l=true):cC n l=true:=dr.2 fun x hx=>bdV_flat (List.all_eq_true.1 h x hx)
theorem bU {n:Nat} {a b:List Value} (ha:cC n a=true) (hb:cC n b=true):cC n (a++b)=true:=by
 rw [dr] at *
 intro x hx
 rcases List.mem_append.1 hx with h|h
 ·exact ha x h
 ·exact hb x h
theorem bdL_take {n k:Nat} {a:List Value} (ha:cC n a=true):cC n (a.take k)=true:=by
 rw [dr] at *
 exact fun x hx=>ha x (List.mem_of_mem_take hx)
theorem bdL_drop {n k:Nat} {a:List Value} (ha:cC n a=true):cC n (a.drop k)=true:=by
 rw [dr] at *
 exact fun x hx=>ha x (List.mem_of_mem_drop hx)
theorem bdL_splice {n off:Nat} {a b:List Value} (ha:cC n a=true) (hb:cC n b=true):cC n (bK a off b)=true:=
 bU (bU (bdL_take ha) hb) (bdL_drop ha)
theorem bdL_get {n i:Nat} {a:List Value} {x:Value} (ha:cC n a=true) (hx:a[i]? = some x):bW n x=true:=dr.1 ha x (List.mem_of_getElem? hx)
theorem bdL_set {n i:Nat} {a:List Value} {x:Value} (ha:cC n a=true) (hx:bW n x=true):cC n (a.set i x)=true:=by
 rw [dr] at *
 intro y hy
 rcases List.mem_or_eq_of_mem_set hy with h|h
 ·exact ha y h
 ·subst h;exact hx
theorem bdL_getD {n i:Nat} {a:List Value} (ha:cC n a=true):bW n (a.getD i undef)=true:=by
 rw [List.getD_eq_getElem?_getD]
 cases h:a[i]? with
 |none=>rfl
 |some x=>exact bdL_get ha h
theorem gX {n:Nat} {a:Array Value}:bW n (.agg a)=cC n a.toList:=by obtain ⟨l⟩:=a;rfl
theorem bdV_tuple {n:Nat} {a:Array Value}:bW n (.tuple a)=cC n a.toList:=by obtain ⟨l⟩:=a;rfl
theorem bdL_cells {n:Nat} {v:Value} (h:bW n v=true):cC n v.cells.toList=true:=by
 cases v with
 |agg a=>rw [gX] at h;exact h
 |_=>simpa [Value.cells,cC] using h
def Mu.cut (μ:Mu) (n:Nat):Mu:=fun b=>if b<n then μ b else none
theorem Mu.dS {μ:Mu} {n b:Nat} {L:Loc} (h:μ b=some L) (hb:b<n):μ.cut n b=some L:=by simp [Mu.cut,hb,h]
theorem Mu.cut_le {μ:Mu} {n b:Nat} {L:Loc} (h:μ.cut n b=some L):μ b=some L∧b<n:=by
 unfold Mu.cut at h
 split at h
 ·exact ⟨h,by assumption⟩
 ·cases h
theorem aA.cut {μ:Mu} {n:Nat} {v v':Value} (h:aA μ v v') (hb:bW n v=true):aA (μ.cut n) v v':=by
 have arr : ∀ {xs ys:Array Value},cC n xs.toList=true→(∀ (i:Nat) (x y:Value),xs[i]? = some x→ys[i]? = some y→bW n x=true→aA (μ.cut n) x y) → ∀ (i:Nat) (x y:Value),xs[i]? = some x→ys[i]? = some y→aA (μ.cut n) x y:=by
  intro xs ys hl ih i x y hx hy
  exact ih i x y hx hy (bdL_get (i:=i) hl (by simpa using hx))
 induction h with
 |flat h=>exact .flat h
 |ptr h=>simp only [bW,decide_eq_true_eq] at hb;exact .ptr (Mu.dS h hb)
 |slice h=>simp only [bW,decide_eq_true_eq] at hb;exact .slice (Mu.dS h hb)
 |hid h a b c d e=>simp only [bW,decide_eq_true_eq] at hb;exact .hid (Mu.dS h hb) a b c d e
 |hemp h=>simp only [bW,decide_eq_true_eq] at hb;exact .hemp (Mu.dS h hb)
 |map h=>simp only [bW,decide_eq_true_eq] at hb;exact .map (Mu.dS h hb)
 |zer=>exact .zer
 |agg hs _ ih=>rw [gX] at hb;exact .agg hs (arr hb ih)
 |tuple hs _ ih=>rw [bdV_tuple] at hb;exact .tuple hs (arr hb ih)
 | @func f g a b c d hf h1 _ h3 _ i1 i2=>
   obtain ⟨la⟩:=a
   obtain ⟨lc⟩:=c
   simp only [bW,Bool.and_eq_true] at hb
   refine .func ?_ h1 (arr hb.2.1 i1) h3 (arr hb.2.2 i2)
   cases f with
   |yield l=>obtain ⟨L,h5,h6⟩:=hf;exact ⟨L,Mu.dS h5 (by simpa [bdF] using hb.1),h6⟩
   |_=>exact hf
 |iface _ ih=>simp only [bW] at hb;exact .iface (ih hb)
theorem aM.cut {μ:Mu} {n:Nat} {v v':List Value} (h:aM μ v v') (hb:cC n v=true):aM (μ.cut n) v v':=
 ⟨h.1,fun i x y hx hy=>(h.2 i x y hx hy).cut (bdL_get hb hx)⟩
theorem CRel.cut {μ:Mu} {n:Nat} {v v':List Value} (h:CRel μ v v') (hb:cC n v=true):CRel (μ.cut n) v v':=
 ⟨h.1,fun i x y hx hy hh=>(h.2 i x y hx hy hh).cut (bdL_get hb hx)⟩
def bdO (n:Nat):eO→Bool
 | .map es _=>es.all fun x=>bW n x.1&&bW n x.2.1
 | .iter m _ _ _=>match m with
   |some b=>decide (b<n)
   |none=>true
 | .loop _ _ tmps _ _ _=>cC n tmps
theorem bdO_mono {n m:Nat} (h:n≤m) {o:eO} (e:bdO n o=true):bdO m o=true:=by
 cases o with
 |map es c=>
  simp only [bdO,List.all_eq_true,Bool.and_eq_true] at e ⊢
  exact fun x hx=>⟨bdV_mono h (e x hx).1,bdV_mono h (e x hx).2⟩
 |iter m' a b c=>
  cases m' with
  |none=>rfl
  |some q=>simp only [bdO,decide_eq_true_eq] at e ⊢;omega
 |loop a b c d f g=>exact bR (l:=c) h e
theorem MRel.cut {μ:Mu} {n:Nat} {o:eO} {ob:Obj} (h:MRel μ o ob) (hb:bdO n o=true):MRel (μ.cut n) o ob:=by
 cases o with
 |map es c=>
  cases ob with
  |map es' c'=>
   obtain ⟨h1,h2,h3⟩:=h
   simp only [bdO,List.all_eq_true,Bool.and_eq_true] at hb
   refine ⟨h1,h2,fun i x e hx he => ?_⟩
   have hm:=hb x (List.mem_of_getElem? hx)
   obtain ⟨k1,k2,k3⟩:=h3 i x e hx he
   exact ⟨k1.cut hm.1,k2.cut hm.2,k3⟩
  |_=>exact h.elim
 |iter m since seen st=>
  cases ob with
  |mapIter m' since' seen' st'=>
   obtain ⟨h1,h2⟩:=h
   refine ⟨?_,h2⟩
   cases m with
   |none=>cases m' with
    |none=>trivial
    |some B=>exact h1
   |some a=>
    cases m' with
    |none=>exact h1
    |some B=>
     obtain ⟨L,h3,h4⟩:=h1
     exact ⟨L,Mu.dS h3 (by simpa [bdO] using hb),h4⟩
  |_=>exact h.elim
 |loop st pend tmps params assign body=>
  cases ob with
  |loop r=>
   obtain ⟨h1,h2,h3,h4⟩:=h
   exact ⟨h1,h2,h3.cut hb,h4⟩
  |_=>exact h.elim
structure az (h:ab):Prop where
 cell : ∀ b k,h.get b=some k→cC h.next k=true
 obj : ∀ b o,h.aF b=some (.obj o)→bdO h.next o=true
instance {h:ab}:CoeFun (az h) (fun _ => ∀ b k,h.get b=some k→cC h.next k=true):=⟨az.cell⟩
theorem cg.cut {μ:Mu} {h:ab} {w:World} (s:cg μ h w) (hb:az h):cg (μ.cut h.next) h w:=by
 have hle:=h.ax
 refine ⟨?_,?_,?_,?_,s.size,?_⟩
 ·intro b cs hbn hc
  obtain ⟨L,arr,T,fr,h1,h2,h3,h4,h5⟩:=s.bS b cs hbn hc
  refine ⟨L,arr,T,fr,Mu.dS h1 (by omega),h2,h3,h4,h5.cut (hb b cs ?_)⟩
  unfold ab.get ab.aF
  rw [if_pos hbn,hc];rfl
 ·intro b k hbn hg
  obtain ⟨L,arr,T,fr,h1,h2,h3,h4,h5,h6,h7,h8⟩:=s.new b k hbn hg
  exact ⟨L,arr,T,fr,Mu.dS h1 (h.aP hg),h2,h3,h4,h5,h6,h7,h8.cut (hb b k hg)⟩
 ·intro b o hbn hg
  obtain ⟨L,ob,h1,h2,h3,h4⟩:=s.obj b o hbn hg
  exact ⟨L,ob,Mu.dS h1 (h.bj hg),h2,h3.cut (hb.obj b o hg),h4⟩
 ·intro b b' k k' L L' h1 h2 h3 h4 h5 h6 h7
  exact s.inj b b' k k' L L' h1 h2 h3 h4 h5 (Mu.cut_le h6).1 (Mu.cut_le h7).1
 ·intro b hbn
  obtain ⟨L,h1,h2⟩:=s.low b hbn
  exact ⟨L,Mu.dS h1 (by omega),h2⟩
theorem az.alloc {h:ab} {k:Blk} (hb:az h) (hk:cC (h.next+1) k=true):az (h.alloc k):=by
 refine ⟨fun b k' hg => ?_,fun b o hg => ?_⟩
 ·rw [ab.aK] at hg
  rw [ab.cn]
  split at hg
  ·cases hg;exact hk
  ·exact bR (by omega) (hb b k' hg)
 ·rw [ab.cA] at hg
  rw [ab.cn]
  split at hg
  ·cases hg
  ·exact bdO_mono (by omega) (hb.obj b o hg)
theorem az.putB {h:ab} {b:Nat} {x:Option BB} (hb:az h) (h0:h.n0≤b) (hn:b<h.next) (hk : ∀ k,x=some (.cells k)→cC h.next k=true) (ho : ∀ o,x=some (.obj o)→bdO h.next o=true):az (h.put b x):=by
 refine ⟨fun c k' hg => ?_,fun c o hg => ?_⟩
 ·have hg:=(h.put b x).aT hg
  rw [h.cM h0 hn] at hg
  rw [ab.next_put]
  split at hg
  ·exact hk _ hg
  ·exact hb c k' (h.cB hg)
 ·rw [h.cM h0 hn] at hg
  rw [ab.next_put]
  split at hg
  ·exact ho _ hg
  ·exact hb.obj c o hg
theorem az.bF {h:ab} {b:Nat} {k:BB} {o:eO} (hb:az h) (h0:h.n0≤b) (hg:h.aF b=some k) (ho:bdO h.next o=true):az (h.bF b o):=
 hb.putB h0 (h.bj hg) (fun _ e=>by cases e) (fun _ e=>by cases e;exact ho)
theorem az.dY {h:ab} {o:eO} (hb:az h) (ho:bdO (h.next+1) o=true):az (h.aZ (.obj o)):=by
 refine ⟨fun b k' hg => ?_,fun b o' hg => ?_⟩
 ·have hg:=(h.aZ _).aT hg
  rw [ab.bx] at hg
  rw [ab.fD]
  split at hg
  ·cases hg
  ·exact bR (by omega) (hb b k' (h.cB hg))
 ·rw [ab.bx] at hg
  rw [ab.fD]
  split at hg
  ·cases hg;exact ho
  ·exact bdO_mono (by omega) (hb.obj b o' hg)
theorem az.put {h:ab} {b:Nat} {x:Option Blk} (hb:az h) (h0:h.n0≤b) (hn:b<h.next) (hk : ∀ k,x=some k→cC h.next k=true):az (h.put b (x.map .cells)):=by
 refine hb.putB h0 hn (fun k hx => ?_) (fun o hx => ?_)
 ·cases x with
  |none=>cases hx
  |some k'=>cases hx;exact hk _ rfl
 ·cases x with
  |none=>cases hx
  |some k'=>cases hx
theorem az.stL {b off:Nat} {xs:List Value} {h h':ab} (hb:az h) (hx:cC h.next xs=true) (e:stL b off xs h=some h'):az h':=by
 unfold Abs.stL at e
 split at e
 ·rename_i k hk
  split at e
  ·rename_i hc
   simp only [Bool.and_eq_true,decide_eq_true_eq] at hc
   cases e
   exact hb.put (x:=some _) hc.1.1 (h.aP hk) (fun k' hk'=>by cases hk';exact bdL_splice (hb b k hk) hx)
  ·cases e
 ·cases e
section ops
variable {P:Program} {h h':ab} {v:Value}
theorem bd_first {size n:Nat} {x:Value} {cs:List Value} (hb:az h) (e:bc size n x h=some cs):cC h.next cs=true:=by
 unfold bc at e
 split at e
 ·split at e<;>cases e;rfl
 ·split at e
  ·cases e;rfl
  ·split at e
   ·rename_i k hk
    split at e
    ·cases e;exact bdL_take (bdL_drop (hb _ k hk))
    ·cases e
   ·cases e
 ·cases e
  exact dE (by rw [flatAll,List.all_eq_true];intro x hx;obtain ⟨b,_,rfl⟩:=List.mem_map.1 hx;rfl)
 ·cases e
theorem bd_fill {n:Nat} : ∀ {ts:List (Nat×Nat×Value)} {cells out:List Value},cC n cells=true→(∀ t∈ts,bW n t.2.2=true)→dt cells ts=some out→cC n out=true
 | [],cells,out,hc,_,e=>by simp only [dt,Option.some.injEq] at e;subst e;exact hc
 | (off,k,v)::ts,cells,out,hc,ht,e=>by
   simp only [dt] at e
   split at e
   ·exact bd_fill (ts:=ts) (bdL_splice hc (bdL_cells (ht (off,k,v) (by simp)))) (fun t hm=>ht t (by simp [hm])) e
   ·cases e
theorem flat_zeros {z:List Value} {n:Nat} (h:flatAll z=true):flatAll (dx z n)=true:=by
 simp only [flatAll,List.all_eq_true,dx,List.mem_flatMap] at h ⊢
 rintro x ⟨_,_,hx⟩;exact h x hx
theorem bd_append {size by_:Nat} {s x:Value} (hb:az h) (hs:bW h.next s=true) (e:aD size by_ s x h=some (v,h')):bW h'.next v=true∧az h':=by
 unfold aD at e
 split at e
 ·rename_i base len cap m hm
  split at e
  ·cases e
  ·rename_i news hnews
   have hn:=bd_first hb hnews
   split at e
   ·cases e
   ·split at e
    ·split at e
     ·cases e;exact ⟨hs,hb⟩
     ·split at e
      ·simp only [Option.map_eq_some_iff,Prod.mk.injEq] at e
       obtain ⟨h1,hst,rfl,rfl⟩:=e
       have hgr:h1.next=h.next:=by
        unfold stL at hst
        split at hst
        ·split at hst
         ·cases hst;rfl
         ·cases hst
        ·cases hst
       exact ⟨by rw [hgr];simpa [bW] using hs,hb.stL hn hst⟩
      ·cases e
    ·split at e
     ·split at e
      ·simp only [Option.some.injEq,Prod.mk.injEq] at e
       obtain ⟨rfl,rfl⟩:=e
       exact ⟨by simp [bW],hb.alloc (bR (by omega) hn)⟩
      ·cases e
     ·split at e
      ·cases e
      ·rename_i olds holds
       have ho:=bd_first hb holds
       split at e
       ·cases e
       ·split at e
        ·simp only [Option.some.injEq,Prod.mk.injEq] at e
         obtain ⟨rfl,rfl⟩:=e
         exact ⟨by simp [bW],hb.alloc (bR (by omega) (bU ho hn))⟩
        ·split at e
         ·rename_i hc
          simp only [Bool.and_eq_true,decide_eq_true_eq] at hc
          obtain ⟨k,hk⟩:=Option.isSome_iff_exists.1 hc.2
          simp only [Option.some.injEq,Prod.mk.injEq] at e
          obtain ⟨rfl,rfl⟩:=e
          have hkl:az (h.kill _):=hb.put (x:=none) hc.1.2 (h.aP hk) (fun k' hk'=>by cases hk')
          exact ⟨by simp [bW],hkl.alloc (bR (by simp) (bU ho hn))⟩
         ·cases e
 ·cases e
theorem bd_ld {t:TypeId} {x:Value} (hb:az h) (e:ld P t x h=some (v,h')):bW h'.next v=true∧az h':=by
 unfold ld at e
 split at e
 ·unfold cT at e
  split at e
  ·split at e
   ·rename_i k hk
    split at e
    ·simp only [Option.some.injEq,Prod.mk.injEq] at e
     obtain ⟨rfl,rfl⟩:=e
     exact ⟨by rw [gX];exact bdL_take (bdL_drop (hb _ k hk)),hb⟩
    ·cases e
   ·cases e
  ·cases e
 ·unfold ld1 at e
  split at e
  ·split at e
   ·rename_i k hk
    split at e
    ·rename_i c hc
     split at e
     ·simp only [Option.some.injEq,Prod.mk.injEq] at e
      obtain ⟨rfl,rfl⟩:=e
      exact ⟨bdL_get (hb _ k hk) hc,hb⟩
     ·cases e
    ·cases e
   ·cases e
  ·cases e
 ·cases e
theorem bd_st {t:TypeId} {x y:Value} (hb:az h) (hy:bW h.next y=true) (e:st P t x y h=some (v,h')):bW h'.next v=true∧az h':=by
 unfold st at e
 split at e
 ·unfold eT at e
  split at e
  ·split at e
   ·simp only [Option.map_eq_some_iff,Prod.mk.injEq] at e
    obtain ⟨h1,hst,rfl,rfl⟩:=e
    exact ⟨rfl,hb.stL (bdL_cells hy) hst⟩
   ·cases e
  ·cases e
 ·cases e
theorem bd_sliceSl {n size:Nat} {x r:Value} {lo hi mx:Option Value} (hx:bW n x=true) (e:dP size x lo hi mx=some r):bW n r=true:=by
 unfold dP at e
 repeat' split at e
 all_goals first
  | (cases e;done)
  | (cases e;first|rfl|(simpa [bW] using hx))
theorem bd_sliceArr {n k size:Nat} {x r:Value} {lo hi mx:Option Value} (hx:bW n x=true) (e:cy k size x lo hi mx=some r):bW n r=true:=by
 unfold cy at e
 repeat' split at e
 all_goals first
  | (cases e;done)
  | (cases e;simpa [bW] using hx)
theorem bd_slice {n:Nat} {t:TypeId} {x r:Value} {lo hi mx:Option Value} (hx:bW n x=true) (e:sliceA P t x lo hi mx=some r):bW n r=true:=by
 unfold sliceA at e
 split at e
 ·simp only [Option.bind_eq_some_iff] at e
  obtain ⟨z,_,e⟩:=e
  exact bd_sliceArr hx e
 ·split at e
  ·simp only [Option.bind_eq_some_iff] at e
   obtain ⟨z,_,e⟩:=e
   exact bd_sliceArr hx e
  ·cases e
 ·split at e
  ·cases e
  ·simp only [Option.bind_eq_some_iff] at e
   obtain ⟨z,_,e⟩:=e
   exact bd_sliceSl hx e
 ·split at e
  ·exact bd_sliceSl hx e
  ·cases e
 ·cases e
theorem bd_addP {n k:Nat} {x r:Value} (hx:bW n x=true) (e:aL x k=some r):bW n r=true:=by
 unfold aL at e
 split at e
 ·cases e;simpa [bW,ptr] using hx
 ·cases e
theorem bd_fieldAt {n:Nat} {t:TypeId} {x r:Value} {i:Nat} (hx:bW n x=true) (e:fieldAtA P t x i=some r):bW n r=true:=by
 unfold fieldAtA at e
 repeat' split at e
 all_goals first
  | (cases e;done)
  |exact bd_addP hx e
theorem bd_indexAt {n:Nat} {t:TypeId} {x ix r:Value} (hx:bW n x=true) (e:indexAtA P t x ix=some r):bW n r=true:=by
 unfold indexAtA at e
 split at e
 ·simp only [Option.bind_eq_some_iff] at e
  obtain ⟨z,_,e⟩:=e
  unfold bI at e
  repeat' split at e
  all_goals first
   | (cases e;done)
   |exact bd_addP hx e
 ·simp only [Option.bind_eq_some_iff] at e
  obtain ⟨z,_,e⟩:=e
  unfold df at e
  repeat' split at e
  all_goals first
   | (cases e;done)
   | (cases e;simpa [bW,ptr] using hx)
 ·cases e
theorem bd_part {n:Nat} {t:TypeId} {cs:Array Value} {off:Nat} {r:Value} (hx:cC n cs.toList=true) (e:partA P t cs off=some r):bW n r=true:=by
 unfold partA at e
 split at e
 ·cases e
  rw [gX]
  have : ∀ k,(cs.extract off (off+k)).toList=(cs.toList.drop off).take k:=by intro k;simp
  rw [this]
  exact bdL_take (bdL_drop hx)
 ·exact bdL_get (i:=off) hx (by simpa using e)
 ·cases e
theorem bd_field {n:Nat} {t:TypeId} {x r:Value} {i:Nat} (hx:bW n x=true) (e:fieldA P t x i=some r):bW n r=true:=by
 unfold fieldA at e
 split at e
 ·split at e
  ·rw [gX] at hx;exact bd_part hx e
  ·cases e
 ·cases e
theorem bd_index {n:Nat} {t:TypeId} {x ix r:Value} (hx:bW n x=true) (e:indexA P t x ix=some r):bW n r=true:=by
 unfold indexA at e
 split at e
 ·split at e
  ·simp only [Option.bind_eq_some_iff] at e
   obtain ⟨z,_,e⟩:=e
   rw [gX] at hx;exact bd_part hx e
  ·cases e
 ·split at e
  ·simp only [Option.map_eq_some_iff] at e
   obtain ⟨b,_,rfl⟩:=e
   rfl
  ·cases e
 ·cases e
theorem bd_extract {n:Nat} {x r:Value} {i:Nat} (hx:bW n x=true) (e:bm x i=some r):bW n r=true:=by
 unfold bm at e
 split at e
 ·rw [bdV_tuple] at hx;exact bdL_get (i:=i) hx (by simpa using e)
 ·cases e
theorem bd_nil {n:Nat} {x r:Value} (hx:bW n x=true) (e:aN x=some r):bW n r=true:=by
 unfold aN at e
 split at e<;>cases e<;>exact hx
theorem bd_build {n:Nat} {t:TypeId} {ps:List (Nat×Value)} {r:Value} (hx : ∀ p∈ps,bW n p.2=true) (e:buildA P t ps=some r):bW n r=true:=by
 unfold buildA at e
 split at e
 ·split at e
  ·rename_i hf
   simp only [Bool.and_eq_true] at hf
   split at e
   ·rename_i ts hts
    simp only [Option.map_eq_some_iff] at e
    obtain ⟨cs,hcs,rfl⟩:=e
    rw [gX]
    refine bd_fill (dE hf.1) ?_ hcs
    have key : ∀ {fs:Array Field} {ps:List (Nat×Value)} {ts},(∀ p∈ps,bW n p.2=true)→fA P fs ps=some ts → ∀ t∈ts,bW n t.2.2=true:=by
     intro fs ps
     induction ps with
     |nil=>intro ts _ h;simp [fA] at h;subst h;simp
     |cons p ps ih=>
      intro ts hp h
      unfold fA at h
      rw [List.mapM_cons] at h
      simp only [bind,Option.bind_eq_some_iff,pure,Option.some.injEq] at h
      obtain ⟨a,ha,l,hl,rfl⟩:=h
      split at ha
      ·simp only [Option.map_eq_some_iff] at ha
       obtain ⟨k,_,rfl⟩:=ha
       intro t ht
       rcases List.mem_cons.1 ht with rfl|ht
       ·exact hp p (by simp)
       ·exact ih (fun q hq=>hp q (by simp [hq])) hl t ht
      ·cases ha
    exact key hx hts
   ·cases e
  ·cases e
 ·split at e
  ·split at e
   ·rename_i hf
    simp only [Option.map_eq_some_iff] at e
    obtain ⟨cs,hcs,rfl⟩:=e
    rw [gX]
    refine bd_fill (dE hf) ?_ hcs
    intro t ht
    obtain ⟨p,hp,rfl⟩:=List.mem_map.1 ht
    exact hx p hp
   ·cases e
  ·cases e
 ·cases e
theorem bd_conv {s d:TypeId} {x:Value} (hb:az h) (hx:bW h.next x=true) (e:convA P s d x h=some (v,h')):bW h'.next v=true∧az h':=by
 unfold convA at e
 repeat' split at e
 all_goals first
  | (cases e;done)
  | (simp only [Option.some.injEq,Prod.mk.injEq] at e
     obtain ⟨rfl,rfl⟩:=e
     first
      |exact ⟨rfl,hb⟩
      |exact ⟨hx,hb⟩
      |exact ⟨by simp [bW],hb.alloc (dE (by rw [flatAll,List.all_eq_true];intro x hx;obtain ⟨b,_,rfl⟩:=List.mem_map.1 hx;rfl))⟩)
theorem bd_make {t:TypeId} {l c:Value} (hb:az h) (e:makeA P t l c h=some (v,h')):bW h'.next v=true∧az h':=by
 unfold makeA at e
 split at e
 ·split at e
  ·split at e
   ·rename_i hc
    simp only [Bool.and_eq_true,decide_eq_true_eq] at hc
    simp only [Option.some.injEq,Prod.mk.injEq] at e
    obtain ⟨rfl,rfl⟩:=e
    exact ⟨by simp [bW],hb.alloc (dE (flat_zeros hc.1.1.2))⟩
   ·cases e
  ·cases e
 ·cases e
theorem bd_buildSlice {t:TypeId} {len:Nat} {ps:List (Nat×Value)} (hb:az h) (hx : ∀ p∈ps,bW h.next p.2=true) (e:fp P t len ps h=some (v,h')):bW h'.next v=true∧az h':=by
 unfold fp at e
 split at e
 ·split at e
  ·split at e
   ·rename_i hc
    simp only [Bool.and_eq_true,decide_eq_true_eq] at hc
    split at e
    ·rename_i cs hcs
     simp only [Option.some.injEq,Prod.mk.injEq] at e
     obtain ⟨rfl,rfl⟩:=e
     refine ⟨by simp [bW],hb.alloc (bR (Nat.le_succ _) (bd_fill (dE (flat_zeros hc.1.1.1.1)) ?_ hcs))⟩
     intro t ht
     obtain ⟨p,hp,rfl⟩:=List.mem_map.1 ht
     exact hx p hp
    ·cases e
   ·cases e
  ·cases e
 ·cases e
theorem bd_minmax {n:Nat} {mx:Bool} : ∀ {l:List Value} {x r:Value},bW n x=true→eY mx x l=some r→bW n r=true
 | [],x,r,hx,e=>by cases e;exact hx
 |y::l,x,r,hx,e=>by
  unfold eY at e
  split at e
  ·rename_i h;cases h
  ·rename_i k a k' b rest heq
   cases heq
   split at e
   ·exact bd_minmax (l:=l) rfl e
   ·cases e
  ·cases e
theorem bd_entries {x:Value} {es:List (Value×Value×Nat)} (hb:az h) (e:entriesA x h=some es) : ∀ p∈es,bW h.next p.1=true∧bW h.next p.2.1=true:=by
 unfold entriesA at e
 split at e
 ·cases e;simp
 ·split at e
  ·rename_i b es' c hg
   cases e
   have:=hb.obj _ _ hg
   simpa [bdO] using this
  ·cases e
 ·cases e
theorem findA_mem {t:TypeId} {k:Value} : ∀ {es:List (Value×Value×Nat)} {n i:Nat} {v:Value},findA P t k es n=some (some (i,v))→n≤i ∧ ∃ x,es[i-n]? = some x∧x.2.1=v∧eqA P t k x.1=some true
 | [],n,i,v,e=>by simp [findA] at e
 |x::es,n,i,v,e=>by
  unfold findA at e
  split at e
  ·rename_i he
   simp only [Option.some.injEq,Prod.mk.injEq] at e
   obtain ⟨rfl,rfl⟩:=e
   exact ⟨Nat.le_refl _,x,by simp,rfl,he⟩
  ·obtain ⟨h1,y,h2,h3⟩:=findA_mem e
   refine ⟨by omega,y,?_,h3⟩
   rw [show i-n=(i-(n+1))+1 by omega]
   exact h2
  ·cases e
theorem bd_lookup {t:TypeId} {x k:Value} {ok:Bool} (hb:az h) (e:fk P t x k ok h=some (v,h')):bW h'.next v=true∧az h':=by
 have gr : ∀ {z:Value},ground z=true→bW h.next z=true:=by
  intro z hz
  cases z with
  |agg cs=>rw [gX];exact dE (by simpa [ground] using hz)
  |_=>exact bdV_flat hz
 unfold fk at e
 split at e
 ·rename_i kt et es _ hes
  split at e
  ·split at e
   ·rename_i i v1 z hf hz
    obtain ⟨_,y,hy,rfl,_⟩:=findA_mem hf
    have hm:=bd_entries hb hes y (List.mem_of_getElem? hy)
    simp only [Option.some.injEq,Prod.mk.injEq] at e
    obtain ⟨rfl,rfl⟩:=e
    refine ⟨?_,hb⟩
    split
    ·simp [bW,cC,hm.2]
    ·exact hm.2
   ·rename_i z hz
    split at e
    ·rename_i hgz
     simp only [Option.some.injEq,Prod.mk.injEq] at e
     obtain ⟨rfl,rfl⟩:=e
     refine ⟨?_,hb⟩
     split
     ·simp [bW,cC,gr hgz]
     ·exact gr hgz
    ·cases e
   ·cases e
  ·cases e
 ·cases e
theorem bd_ground {n:Nat} {z:Value} (hz:ground z=true):bW n z=true:=by
 cases z with
 |agg cs=>rw [gX];exact dE (by simpa [ground] using hz)
 |_=>exact bdV_flat hz
theorem bd_entries_set {n:Nat} {es:List (Value×Value×Nat)} {c:Nat} {i:Nat} {x:Value×Value×Nat} (hb:bdO n (.map es c)=true) (h1:bW n x.1=true) (h2:bW n x.2.1=true) (c':Nat):bdO n (.map (es.set i x) c')=true:=by
 simp only [bdO,List.all_eq_true,Bool.and_eq_true] at hb ⊢
 intro y hy
 rcases List.mem_or_eq_of_mem_set hy with h|h
 ·exact hb y h
 ·subst h;exact ⟨h1,h2⟩
theorem bd_entries_add {n:Nat} {es:List (Value×Value×Nat)} {c:Nat} {x:Value×Value×Nat} (hb:bdO n (.map es c)=true) (h1:bW n x.1=true) (h2:bW n x.2.1=true) (c':Nat):bdO n (.map (es ++ [x]) c')=true:=by
 simp only [bdO,List.all_eq_true,Bool.and_eq_true] at hb ⊢
 intro y hy
 rcases List.mem_append.1 hy with h|h
 ·exact hb y h
 ·rw [List.mem_singleton.1 h];exact ⟨h1,h2⟩
theorem bd_entries_get {n:Nat} {es:List (Value×Value×Nat)} {c i:Nat} {x:Value×Value×Nat} (hb:bdO n (.map es c)=true) (hx:es[i]? = some x):bW n x.1=true∧bW n x.2.1=true:=by
 simp only [bdO,List.all_eq_true,Bool.and_eq_true] at hb
 exact hb x (List.mem_of_getElem? hx)
theorem bd_mapUpdate {t:TypeId} {m k x:Value} (hb:az h) (hx:bW h.next x=true) (e:dF P t m k x h=some (v,h')):bW h'.next v=true∧az h':=by
 unfold dF at e
 split at e
 ·split at e
  ·rename_i b es clock hg
   have ho:=hb.obj _ _ hg
   have h0:=h.bn hg
   split at e
   ·rename_i hk
    simp only [Bool.and_eq_true] at hk
    have hkb:=bd_ground (n:=h.next) hk.2
    split at e
    ·split at e
     ·split at e
      ·cases e
       exact ⟨rfl,hb.bF h0 hg (bd_entries_set ho hkb hx _)⟩
      ·cases e
     ·cases e
    ·cases e
     exact ⟨rfl,hb.bF h0 hg (bd_entries_add ho hkb hx _)⟩
    ·cases e
   ·cases e
  ·cases e
 ·cases e
theorem bd_mapEntry {t:TypeId} {m k:Value} (hb:az h) (e:mapEntryA P t m k h=some (v,h')):bW h'.next v=true∧az h':=by
 unfold mapEntryA at e
 split at e
 ·split at e
  ·rename_i b es clock hg
   have ho:=hb.obj _ _ hg
   have h0:=h.bn hg
   split at e
   ·rename_i hk
    simp only [Bool.and_eq_true] at hk
    have hkb:=bd_ground (n:=h.next) hk.2
    split at e
    ·rename_i i v1 hf
     obtain ⟨_,y,hy,rfl,_⟩:=findA_mem hf
     split at e
     ·rename_i x hx
      split at e
      ·cases e
       have hm:=bd_entries_get ho hx
       have hm2:=bd_entries_get ho hy
       exact ⟨by simp only [ab.next_setO,bW,cC,Bool.and_true,hm2.2,Bool.true_and];rfl,hb.bF h0 hg (bd_entries_set (x:=(k,x.2.1,x.2.2)) ho hkb hm.2 _)⟩
      ·cases e
     ·cases e
    ·split at e
     ·rename_i z hz
      split at e
      ·rename_i hgz
       cases e
       exact ⟨by simp only [ab.next_setO,bW,cC,Bool.and_true,bd_ground hgz,Bool.true_and];rfl,hb.bF h0 hg (bd_entries_add ho hkb (bd_ground hgz) _)⟩
      ·cases e
     ·cases e
    ·cases e
   ·cases e
  ·cases e
 ·cases e
theorem bd_entryStore {m s x:Value} (hb:az h) (hx:bW h.next x=true) (e:fB m s x h=some (v,h')):bW h'.next v=true∧az h':=by
 unfold fB at e
 split at e
 ·split at e
  ·rename_i b n es clock hg
   have ho:=hb.obj _ _ hg
   have h0:=h.bn hg
   split at e
   ·split at e
    ·rename_i y hy
     cases e
     exact ⟨rfl,hb.bF h0 hg (bd_entries_set (x:=(y.1,x,y.2.2)) ho (bd_entries_get ho hy).1 hx _)⟩
    ·cases e
   ·cases e
  ·cases e
 ·cases e
theorem bd_makeMap {r:Option Value} {t:TypeId} (hb:az h) (e:fX r P t h=some (v,h')):bW h'.next v=true∧az h':=by
 unfold fX at e
 split at e
 ·cases e;exact ⟨by simp [bW],hb.dY rfl⟩
 ·split at e
  ·cases e;exact ⟨by simp [bW],hb.dY rfl⟩
  ·cases e
 ·cases e
theorem bd_range {t:TypeId} {x:Value} (hb:az h) (e:rangeA P t x h=some (v,h')):bW h'.next v=true∧az h':=by
 unfold rangeA at e
 split at e
 ·cases e;exact ⟨by simp [bW,ptr],hb.dY rfl⟩
 ·split at e
  ·rename_i b es clock hg
   cases e
   have:=h.bj hg
   exact ⟨by simp [bW,ptr],hb.dY (by simp only [bdO,decide_eq_true_eq];omega)⟩
  ·cases e
 ·cases e
theorem bd_nexts {it:Value} {l:List (Value×ab)} (hb:az h) (e:nextsA it h=some l) : ∀ p∈l,bW p.2.next p.1=true∧az p.2:=by
 unfold nextsA at e
 split at e
 ·split at e
  ·cases e
   intro p hp
   rw [List.mem_singleton.1 hp]
   exact ⟨rfl,hb⟩
  ·rename_i r m since seen last hr
   split at e
   ·rename_i es clock hm
    simp only [Option.map_eq_some_iff] at e
    obtain ⟨cs,hc,rfl⟩:=e
    intro p hp
    obtain ⟨c,hcm,rfl⟩:=List.mem_map.1 hp
    cases c with
    |none=>exact ⟨rfl,hb⟩
    |some c=>
     unfold candsA at hc
     split at hc
     ·cases hc
     ·simp only [Option.some.injEq] at hc
      subst hc
      have hin:c∈es:=by
       rcases List.mem_append.1 hcm with h1|h1
       ·split at h1
        ·simp at h1
        ·cases h1
       ·simp only [List.map_append,List.mem_append,List.mem_map,Option.some.injEq,exists_eq_right] at h1
        rcases h1 with h1|h1
        ·exact (List.mem_filter.1 (List.mem_filter.1 h1).1).1
        ·exact (List.mem_filter.1 (List.mem_filter.1 h1).1).1
      have hbm:=hb.obj _ _ hm
      simp only [bdO,List.all_eq_true,Bool.and_eq_true] at hbm
      have hq:=hbm c hin
      refine ⟨by simp only [stepTo,ab.next_setO,bW,cC,hq.1,hq.2,Bool.and_self],hb.bF (h.bn hr) hr ?_⟩
      simp only [bdO,decide_eq_true_eq]
      exact h.bj hm
   ·cases e
  ·cases e
 ·cases e
theorem bd_next {it:Value} {str:Bool} (hb:az h) (e:nextA it str h=some (v,h')):bW h'.next v=true∧az h':=by
 unfold nextA at e
 split at e
 ·cases e
 ·split at e
  ·rename_i r hr
   cases e
   exact bd_nexts hb hr (v,h') (by simp)
  ·cases e
theorem bd_delete {t:TypeId} {m k:Value} (hb:az h) (e:deleteA P t m k h=some (v,h')):bW h'.next v=true∧az h':=by
 unfold deleteA at e
 split at e
 ·split at e
  ·split at e
   ·cases e;exact ⟨rfl,hb⟩
   ·split at e
    ·rename_i b es clock hg
     have ho:=hb.obj _ _ hg
     have h0:=h.bn hg
     split at e
     ·cases e
      refine ⟨rfl,hb.bF h0 hg ?_⟩
      simp only [bdO,List.all_eq_true,Bool.and_eq_true] at ho ⊢
      exact fun x hx=>ho x (List.mem_of_mem_eraseIdx hx)
     ·cases e
      exact ⟨rfl,hb.bF h0 hg ho⟩
     ·cases e
    ·cases e
   ·cases e
  ·cases e
 ·cases e
theorem bd_mapClear {x:Value} (hb:az h) (e:mapClearA x h=some (v,h')):bW h'.next v=true∧az h':=by
 unfold mapClearA at e
 split at e
 ·cases e;exact ⟨rfl,hb⟩
 ·split at e
  ·rename_i b es clock hg
   cases e
   exact ⟨rfl,hb.bF (h.bn hg) hg rfl⟩
  ·cases e
 ·cases e
theorem bd_builtin {b:Builtin} {ts:List TypeId} {args:List Value} (hb:az h) (ha:cC h.next args=true) (e:builtinA P b ts args h=some (v,h')):bW h'.next v=true∧az h':=by
 unfold builtinA at e
 split at e
 ·simp only [cC,Bool.and_eq_true] at ha
  repeat' split at e
  all_goals first
   | (cases e;done)
   |exact bd_append hb ha.1 e
 ·split at e
  ·simp only [Option.bind_eq_some_iff] at e
   obtain ⟨n,_,e⟩:=e
   unfold copyA at e
   split at e
   ·simp only at e
    split at e
    ·cases e
    ·rename_i news hn
     split at e
     ·cases e;exact ⟨rfl,hb⟩
     ·split at e
      ·cases e
      ·simp only [Option.map_eq_some_iff,Prod.mk.injEq] at e
       obtain ⟨h1,hst,rfl,rfl⟩:=e
       exact ⟨rfl,hb.stL (bd_first hb hn) hst⟩
   ·cases e
  ·cases e
 ·split at e
  ·simp only [Option.bind_eq_some_iff] at e
   obtain ⟨n,_,e⟩:=e
   unfold clearA at e
   split at e
   ·cases e;exact ⟨rfl,hb⟩
   ·split at e
    ·cases e;exact ⟨rfl,hb⟩
    ·split at e
     ·split at e
      ·rename_i hc
       simp only [Bool.and_eq_true,decide_eq_true_eq] at hc
       simp only [Option.map_eq_some_iff,Prod.mk.injEq] at e
       obtain ⟨h1,hst,rfl,rfl⟩:=e
       exact ⟨rfl,hb.stL (dE (flat_zeros hc.1.1)) hst⟩
      ·cases e
     ·cases e
   ·cases e
  ·split at e
   ·exact bd_mapClear hb e
   ·cases e
 ·split at e
  ·rename_i r hr
   cases e
   unfold lenOfT at hr
   repeat' split at hr
   all_goals first
    | (cases hr;done)
    | (cases hr;exact ⟨rfl,hb⟩)
  ·split at e
   ·simp only [Option.map_eq_some_iff,Prod.mk.injEq] at e
    obtain ⟨r,hr,rfl,rfl⟩:=e
    unfold mapLenA at hr
    simp only [Option.map_eq_some_iff] at hr
    obtain ⟨_,_,rfl⟩:=hr
    exact ⟨rfl,hb⟩
   ·cases e
 ·exact bd_delete hb e
 ·simp only [cC,Bool.and_eq_true] at ha
  simp only [Option.map_eq_some_iff,Prod.mk.injEq] at e
  obtain ⟨r,hr,rfl,rfl⟩:=e
  exact ⟨bd_minmax ha.1 hr,hb⟩
 ·simp only [cC,Bool.and_eq_true] at ha
  simp only [Option.map_eq_some_iff,Prod.mk.injEq] at e
  obtain ⟨r,hr,rfl,rfl⟩:=e
  exact ⟨bd_minmax ha.1 hr,hb⟩
 ·cases e
end ops
end Go.Abs

