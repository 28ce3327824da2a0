/-
  A part of the proof, spaces and names shortened by a program (a claim may hold 1,500,000 bytes).
  Conditions: as each theorem states.
-/
import Derived.Test.YtjghlcdidopcpaaGreatDoorG13
namespace Go.Proofs.YtjghlcdidopcpaaGreatDoor
open Go Go.Abs
attribute [local congr] aU
@[ext] structure Cu where
  l:List Nat
  bad:Bool
def Cu.take (c:Cu) (n:Nat):List Nat×Cu:=if c.bad=true∨c.l.length<n then (List.replicate n 0,⟨[],true⟩) else (c.l.take n,⟨c.l.drop n,false⟩)
def Cu.num (c:Cu) (n:Nat):Nat×Cu:=(be (c.take n).1,(c.take n).2)
def Cu.word (c:Cu):List Nat×Cu:=(c.num 2).2.take (c.num 2).1
abbrev cutC (s:Value) (b:Bool):dB := [s,.bool b]
def ej (h:aj) (N:Nat) (v:Value) (c:Cu):Prop := ∃ a p,v = .agg (cutC (.slice a c.l.length p) c.bad).toArray∧ay a c.l.length h=some c.l∧cn a c.l.length p=true∧c.l.length≤21000 ∧ ∀ y,a=some y→0<c.l.length→y.block<N
theorem ej.bA {h h':aj} {N:Nat} {v:Value} {c:Cu} (x:ej h N v c) (o:Old h h'):ej h' N v c:=by
 obtain ⟨a,p,e,h1,h2,h3⟩:=x
 exact ⟨a,p,e,Old.bytes o h1,h2,h3⟩
theorem ej.bF {h h':aj} {N:Nat} {v:Value} {c:Cu} (x:ej h N v c) {B:Nat→Prop} (k:Kept h h' B) (hB : ∀ b,B b→N≤b):ej h' N v c:=by
 obtain ⟨a,p,e,h1,h2,h3,h4⟩:=x
 exact ⟨a,p,e,k.bytes h1 (fun y hy hn b=>by have:=h4 y hy hn;have:=hB _ b;omega),h2,h3,h4⟩
theorem ej.bys {h:aj} {N:Nat} {v:Value} {c:Cu} (x:ej h N v c):Bys c.l:=by
 obtain ⟨a,p,_,h1,_⟩:=x
 exact (aw h1).2.1
def CutB (h:aj) (N b:Nat) (c:Cu):Prop := ∃ a p,h.get b=some (cutC (.slice a c.l.length p) c.bad)∧ay a c.l.length h=some c.l∧cn a c.l.length p=true∧c.l.length≤21000 ∧ ∀ y,a=some y→0<c.l.length→y.block<N
theorem CutB.bA {h h':aj} {N b:Nat} {c:Cu} (x:CutB h N b c) (o:Old h h'):CutB h' N b c:=by
 obtain ⟨a,p,e,h1,h2,h3⟩:=x
 exact ⟨a,p,Old.get o e,Old.bytes o h1,h2,h3⟩
theorem CutB.bF {h h':aj} {N b:Nat} {c:Cu} (x:CutB h N b c) {B:Nat→Prop} (k:Kept h h' B) (hb : ¬B b) (hB : ∀ b,B b→N≤b):CutB h' N b c:=by
 obtain ⟨a,p,e,h1,h2,h3,h4⟩:=x
 exact ⟨a,p,k.dj e hb,k.bytes h1 (fun y hy hn b=>by have:=h4 y hy hn;have:=hB _ b;omega),h2,h3,h4⟩
theorem CutB.lt {h:aj} {N b:Nat} {c:Cu} (x:CutB h N b c):b<h.next:=by
 obtain ⟨a,p,e,_⟩:=x
 exact h.bc e
theorem CutB.ld {h:aj} {N b:Nat} {c:Cu} (x:CutB h N b c) : ∃ v,ej h N v c∧fb v v=true∧(∀ h',h'.get b=h.get b→bD 2 (ptr b 0) h'=some (v,h'))∧aN (ptr b 1) h=some (.bool c.bad,h) ∧ ∃ a p,v = .agg (cutC (.slice a c.l.length p) c.bad).toArray∧aN (ptr b 0) h=some (.slice a c.l.length p,h)∧ay a c.l.length h=some c.l∧cn a c.l.length p=true∧c.l.length≤21000 ∧ ∀ y,a=some y→0<c.l.length→y.block<N:=by
 obtain ⟨a,p,h1,h2,h3,h4⟩:=x
 have vq:fb (.agg (cutC (.slice a c.l.length p) c.bad).toArray) (.agg (cutC (.slice a c.l.length p) c.bad).toArray)=true:=by
  cases a<;>simp [fb,veqL]
 refine ⟨_,⟨a,p,rfl,h2,h3,h4⟩,vq,fun h' e => ?_,aV h1 rfl rfl,a,p,rfl,aV h1 rfl rfl,h2,h3,h4.1,h4.2⟩
 rw [h1] at e
 exact cA e rfl rfl
theorem ej.box {h:aj} {N:Nat} {v:Value} {c:Cu} (x:ej h N v c) : ∃ h1,box v h=some (ptr h.next 0,h1)∧Old h h1∧CutB h1 N h.next c∧h1.next=h.next+1:=by
 obtain ⟨a,p,rfl,h1,h2,h3⟩:=x
 have o:Old h (h.alloc (cutC (.slice a c.l.length p) c.bad)):=Kept.alloc _ _ _
 exact ⟨_,fz h _ rfl,o,⟨a,p,by rw [aj.aS,if_pos rfl],Old.bytes o h1,h2,h3⟩,rfl⟩
theorem CutB.put {h:aj} {N:Nat} {v:Value} {c c0:Cu} {b:Nat} (y:CutB h N b c0) (x:ej h N v c) (hn:h.n0≤b) (hN:N≤b) : ∃ h1,bw 2 (ptr b 0) v h=some (undef,h1)∧Kept h h1 (· = b)∧CutB h1 N b c∧h1.next=h.next:=by
 obtain ⟨_,_,g,_⟩:=y
 obtain ⟨a,p,rfl,h1,h2,h3,h4⟩:=x
 obtain ⟨h',e,k',g',_,nx⟩:=bJ (n:=2) (k':=cutC (.slice a c.l.length p) c.bad) g hn rfl rfl rfl
 exact ⟨h',e,k',⟨a,p,g',k'.bytes h1 (fun y hy hn' b=>by have:=h4 y hy hn';have b:y.block=_:=b;omega),h2,h3,h4⟩,nx⟩
theorem fT (h:aj) (N:Nat) : ∃ h1,cL [(.slice none 0 0),(.bool false)] h=some (ptr h.next 0,h1)∧Old h h1∧CutB h1 N h.next ⟨[],false⟩∧h1.next=h.next+1:=by
 obtain ⟨h1,e,o,g,n⟩:=fresh [(.slice none 0 0),(.bool false)] h
 exact ⟨h1,e,o,⟨none,0,g,rfl,rfl,Nat.zero_le _,fun y hy=>by cases hy⟩,n⟩
theorem bldC (a:Option Addr) (n c:Nat) (b:Bool):bU [(.slice none 0 0),(.bool false)] [(0,1,.slice a n c),(1,1,.bool b)]=some (.agg (cutC (.slice a n c) b).toArray):=rfl
theorem res_tmp_cell {rs:List ResultVar} {n k t z j:Nat} (hr:rs = [.tmp j,.cell k t]) (h1:aggT Tryz.prog t=some true) (h2:cD Tryz.prog t=some z) (hk:k<n) (hj:j<n) (x:Nat→Value) {h:aj} {v:Value} (e:bD z (x k) h=some (v,h)):ar Tryz.prog rs (aJ n x) h=some (.tuple #[x j,v],h):=by
 subst hr
 simp only [ar,List.mapM_cons,List.mapM_nil,dI,getD_mkF hk,getD_mkF hj,ld_agg h1 h2,e]
 rfl
theorem fD {rs:List ResultVar} {n k t z k' t' z':Nat} (hr:rs = [.cell k t,.cell k' t']) (h1:aggT Tryz.prog t=some true) (h2:cD Tryz.prog t=some z) (h1':aggT Tryz.prog t'=some true) (h2':cD Tryz.prog t'=some z') (hk:k<n) (hk':k'<n) (x:Nat→Value) {h:aj} {v v':Value} (e:bD z (x k) h=some (v,h)) (e':bD z' (x k') h=some (v',h)):ar Tryz.prog rs (aJ n x) h=some (.tuple #[v,v'],h):=by
 subst hr
 simp only [ar,List.mapM_cons,List.mapM_nil,dI,getD_mkF hk,getD_mkF hk',ld_agg h1 h2,ld_agg h1' h2',e,e']
 rfl
theorem agg82:aggT Tryz.prog 82=some true:=by kernel_rfl
theorem siz82:cD Tryz.prog 82=some 2:=by kernel_rfl
theorem zeros_u8 (n:Nat):dD [(.int .u8 0)] n=(List.replicate n 0).map u8:=by
 unfold dD
 rw [List.map_replicate]
 induction n with
 |zero=>rfl
 |succ n ih=>rw [List.range_succ,List.flatMap_append,ih,List.replicate_succ'];rfl
theorem mk_bytes (h:aj) {n:Nat} (hn:n≤100000) : ∃ h1,mkR 1 1 (.int .u8 0) (aH n) (aH n) h=some (.slice (some ⟨h.next,0,none⟩) n n,h1)∧Old h h1∧ay (some ⟨h.next,0,none⟩) n h1=some (List.replicate n 0)∧h1.next=h.next+1:=by
 refine ⟨h.alloc (dD [(.int .u8 0)] n),?_,Kept.alloc _ _ _,?_,rfl⟩
 ·unfold mkR aH
  simp only
  rw [if_pos (by
   simp only [Bool.and_eq_true,decide_eq_true_eq]
   refine ⟨⟨⟨⟨⟨⟨by omega,by omega⟩,by omega⟩,by omega⟩,rfl⟩,by decide⟩,by decide⟩),Int.toNat_natCast]
  rfl
 ·rw [zeros_u8]
  have:=sliceBytes_at (h:=h.alloc ((List.replicate n 0).map u8)) (b:=h.next) (off:=0) (n:=n) (s:=none) (l:=List.replicate n 0) (by rw [aj.aS,if_pos rfl]) (by simp) (fun x hx=>by rw [List.eq_of_mem_replicate hx];decide)
  rw [this,List.drop_zero,List.take_of_length_le (by simp)]
theorem Cu.eD (c:Cu) (n:Nat):(c.take n).1.length=n:=by
 unfold Cu.take
 split
 ·exact List.length_replicate
 ·rename_i h
  rw [List.length_take]
  omega
theorem Cu.take_bys {c:Cu} (hb:Bys c.l) (n:Nat):Bys (c.take n).1∧Bys (c.take n).2.l:=by
 unfold Cu.take
 split
 ·exact ⟨fun x hx=>by rw [List.eq_of_mem_replicate hx];decide,fun x hx=>by cases hx⟩
 ·exact ⟨hb.take n,hb.drop n⟩
theorem slR_from' {a:Option Addr} {n c lo:Nat} {h:aj} {l:List Nat} (g:cn a n c=true) (e:ay a n h=some l) (h2:lo≤n) :
  ∃ a' c',slR 1 (.slice a n c) (some (aH lo)) none none=some (.slice a' (n-lo) c')∧ay a' (n-lo) h=some (l.drop lo)∧cn a' (n-lo) c'=true ∧ ∀ y,a'=some y → ∃ y0,a=some y0∧y0.block=y.block:=by
 have hl:=(aw e).1
 obtain ⟨a',c',e1,e2,e3,e4⟩:=slR_bytes (vl:=some (aH lo)) (vh:=none) (lo:=lo) (hi:=n) g e h2 (Nat.le_refl _) rfl (by simp only [cB];rw [if_pos (by omega)];rfl)
 rw [List.take_of_length_le (by rw [List.length_drop];omega)] at e2
 exact ⟨a',c',e1,e2,e3,e4⟩
theorem is81:bO Tryz.prog 81 Tryz.f81:=⟨by kernel_rfl,by kernel_rfl,by kernel_rfl,by kernel_rfl⟩
theorem is78:bO Tryz.prog 78 Tryz.f78:=⟨by kernel_rfl,by kernel_rfl,by kernel_rfl,by kernel_rfl⟩
theorem is79:bO Tryz.prog 79 Tryz.f79:=⟨by kernel_rfl,by kernel_rfl,by kernel_rfl,by kernel_rfl⟩
theorem is80:bO Tryz.prog 80 Tryz.f80:=⟨by kernel_rfl,by kernel_rfl,by kernel_rfl,by kernel_rfl⟩
theorem is37:bO Tryz.prog 37 Tryz.f37:=⟨by kernel_rfl,by kernel_rfl,by kernel_rfl,by kernel_rfl⟩
theorem results81:Tryz.f81.results.toList = [.tmp 4,.cell 5 82]:=by kernel_rfl
theorem results78:Tryz.f78.results.toList = [.tmp 4,.cell 5 82]:=by kernel_rfl
theorem results79:Tryz.f79.results.toList = [.tmp 2,.cell 3 82]:=by kernel_rfl
theorem results80:Tryz.f80.results.toList = [.cell 2 28,.cell 3 82]:=by kernel_rfl
section
variable {h:aj} {N:Nat} {v:Value} {c:Cu} (hG:4≤h.n0) (hN:N≤h.next) (x:ej h N v c)
include hG hN x
set_option maxRecDepth 100000 in
theorem r81 {n:Nat} (hn:n≤100000) : ∃ a p v' h',CW 81 [v,aH n] h=some (.tuple #[.slice a n p,v'],h')∧ay a n h'=some (c.take n).1∧cn a n p=true∧(∀ y,a=some y→h.next≤y.block)∧ej h' N v' (c.take n).2∧Old h h':=by
 obtain ⟨h1,b1,o1,X1,n1⟩:=x.box
 obtain ⟨h2,z2,o2,Z2,n2⟩:=fT h1 N
 have O2:=o1.trans o2
 obtain ⟨v0,_,_,_,ldb,a,p,_,ldl,hs,hg,_,hbl⟩:=(X1.bA o2).ld
 have hln:bG (.slice a c.l.length p)=some (aH c.l.length):=rfl
 have hgt:=gtr3 n c.l.length
 have hgt:bin Tryz.prog .gtr 3 (aH n) (aH c.l.length)=some (.bool (decide (c.l.length<n))):=hgt
 have p2:h2.n0≤h1.next:=by rw [o2.n0];exact h1.aK
 have hlen:=aw hs
 obtain ⟨_,_,_,_,_,hc21,_⟩:=x
 by_cases hc:c.bad=true∨c.l.length<n
 ·have ht:c.take n=(List.replicate n 0,⟨[],true⟩):=by unfold Cu.take;rw [if_pos hc]
  rw [ht]
  obtain ⟨h3,m3,o3,s3,n3⟩:=mk_bytes h2 hn
  obtain ⟨h4,e4,k4,B4,n4⟩:=(Z2.bA o3).put (c:=⟨[],true⟩) (h:=h3) (v := .agg (cutC (.slice none 0 0) true).toArray) ⟨none,0,rfl,rfl,rfl,Nat.zero_le _,fun y hy=>by cases hy⟩ (by rw [o3.n0];exact p2) (by omega)
  have s4:ay (some ⟨h2.next,0,none⟩) n h4=some (List.replicate n 0):=k4.bytes s3 (fun y hy _ e=>by cases hy;have e:h2.next=h1.next:=e;omega)
  have O4:Old h h4:=(O2.trans o3).cE k4 (fun d hd e=>by have:=o1.next;omega)
  obtain ⟨w,W,_,lw,_⟩:=B4.ld
  have l4:=lw h4 rfl
  have bC:=bldC none 0 0 true
  refine ⟨_,n,w,h4,aF is81 hG rfl ((t81_eq _ _ _ _).trans ?_),s4,?_,fun y hy => ?_,W,O4⟩
  ·unfold t81
   have key:=fun (X:Nat→Value) (h5:X 5=ptr h1.next 0)=>res_tmp_cell results81 agg82 siz82 (show 5<29 by decide) (show 4<29 by decide) X (by rw [h5];exact l4)
   rcases hc with hc|hc
   ·rw [hc] at ldb
    simp -implicitDefEqProofs only [b1, z2, ldb, m3, bC, e4, af, ak, ao, sf, ah, if_true, Bool.and_true, al, Nat.zero_add]
    exact key _ rfl
   ·rw [decide_eq_true hc] at hgt
    cases hb:c.bad with
    |true=>
     rw [hb] at ldb
     simp -implicitDefEqProofs only [b1, z2, ldb, m3, bC, e4, af, ak, ao, sf, ah, if_true, Bool.and_true, al, Nat.zero_add]
     exact key _ rfl
    |false=>
     rw [hb] at ldb
     simp -implicitDefEqProofs only [b1, z2, ldb, ldl, hln, hgt, m3, bC, e4, af, ak, ao, beq_self_eq_true, ai, Bool.false_eq_true, if_false, Bool.and_true, al, Nat.zero_add]
     exact key _ rfl
  ·unfold cn
   simp
  ·cases hy
   show h.next≤h2.next
   have:=O2.next
   omega
 ·have ht:c.take n=(c.l.take n,⟨c.l.drop n,false⟩):=by unfold Cu.take;rw [if_neg hc]
  rw [ht]
  have hb:c.bad=false:=by cases h:c.bad with|true=>exact absurd (.inl h) hc|false=>rfl
  have hnl:n≤c.l.length:=by omega
  rw [decide_eq_false (by omega)] at hgt
  rw [hb] at ldb
  obtain ⟨a1,p1,y1,s1,g1⟩:=slR_to (c:=p) hg hs hnl
  obtain ⟨a2,p2',y2,s2,g2,fb2⟩:=slR_from' (c:=p) hg hs hnl
  obtain ⟨a3,p3,h3,e3,s3,g3,o3,f3⟩:=app_copy (h:=h2) (c:=p1) s1 (by omega)
  have b3:=bslB h2
  have O3:=O2.trans o3
  have bC:=bldC a2 (c.l.length-n) p2' false
  have dl:(c.l.drop n).length=c.l.length-n:=List.length_drop ..
  obtain ⟨h4,e4,k4,B4,n4⟩:=(Z2.bA o3).put (c:=⟨c.l.drop n,false⟩) (h:=h3) (v := .agg (cutC (.slice a2 (c.l.length-n) p2') false).toArray) ⟨a2,p2',by rw [dl],by rw [dl];exact Old.bytes o3 s2,by rw [dl];exact g2,by rw [dl];omega,fun y hy hn'=>by
   obtain ⟨y0,q1,q2⟩:=fb2 y hy
   have:=hbl y0 q1 (by rw [dl] at hn';omega)
   omega⟩ (by rw [o3.n0];exact p2) (by omega)
  have s4:ay a3 n h4=some (c.l.take n):=k4.bytes s3 (fun y hy _ e=>by have:=f3 y hy;have e:y.block=h1.next:=e;omega)
  have O4:Old h h4:=O3.cE k4 (fun d hd e=>by have:=o1.next;omega)
  obtain ⟨w,W,_,lw,_⟩:=B4.ld
  have l4:=lw h4 rfl
  have ldl3':aN (ptr h.next 0) h3=some (.slice a c.l.length p,h3):=by
   have e0:=ldl
   obtain ⟨q,q',g0,_⟩:=X1.bA o2
   have:=aV (o:=0) g0 rfl rfl
   rw [this] at e0
   cases e0
   exact aV (Old.get o3 g0) rfl rfl
  have vq:fb (.slice a c.l.length p) (.slice a c.l.length p)=true:=by cases a<;>simp [fb]
  have ck:=fM ldl3' vq
  refine ⟨a3,p3,w,h4,aF is81 hG rfl ((t81_eq _ _ _ _).trans ?_),s4,g3,fun y hy => ?_,W,O4⟩
  ·unfold t81
   simp -implicitDefEqProofs only [b1, z2, ldb, ldl, hln, hgt, y1, y2, bC, b3, e3, e4, ck, af, ak, ao, beq_self_eq_true, ai, Bool.false_eq_true, if_false, Bool.and_true, al, Nat.zero_add]
   exact res_tmp_cell results81 agg82 siz82 (show 5<29 by decide) (show 4<29 by decide) _ l4
  ·have:=f3 y hy
   have:=O2.next
   omega
set_option maxRecDepth 100000 in
theorem r78 {n:Nat} (hn:n≤8) : ∃ v' h',CW 78 [v,aH n] h=some (.tuple #[.int .u64 ((c.num n).1:Nat),v'],h')∧ej h' N v' (c.num n).2∧Old h h':=by
 obtain ⟨h1,b1,o1,X1,n1⟩:=x.box
 obtain ⟨h2,z2,o2,Z2,n2⟩:=fT h1 N
 have O2:=o1.trans o2
 have X2:=X1.bA o2
 obtain ⟨v0,V0,_,l0,_⟩:=X2.ld
 have l0:=l0 h2 rfl
 obtain ⟨a,p,v',h3,e3,s3,g3,f3,V3,o3⟩:=r81 (h:=h2) (by rw [O2.n0];exact hG) (by omega) V0 (n:=n) (by omega)
 have O3:=O2.trans o3
 obtain ⟨h4,e4,k4,B4,n4⟩:=(X2.bA o3).put V3 (by rw [O3.n0];exact h.aK) hN
 have O4:Old h h4:=O3.cE k4 (fun d hd e=>by omega)
 have s4:ay a n h4=some (c.take n).1:=k4.bytes s3 (fun y hy _ e=>by have:=f3 y hy;have:=O2.next;have e:y.block=h.next:=e;omega)
 have e5:=r38 (h:=h4) (by rw [O4.n0];exact hG) (c:=p) s4 hn
 obtain ⟨v5,V5,vq5,l5,_⟩:=B4.ld
 have l5':=l5 h4 rfl
 have Z4:CutB h4 N h1.next ⟨[],false⟩:=(Z2.bA o3).bF k4 (by omega) (fun b e=>by omega)
 obtain ⟨h6,e6,k6,B6,n6⟩:=Z4.put V5 (by rw [O4.n0];have:=h.aK;omega) (by omega)
 have O6:Old h h6:=O4.cE k6 (fun d hd e=>by omega)
 obtain ⟨w,W,_,lw,_⟩:=B6.ld
 have lw:=lw h6 rfl
 have ck:=fM (o:=some (v5,h4)) rfl vq5
 refine ⟨w,h6,aF is78 hG rfl ((t78_eq _ _ _ _).trans ?_),W,O6⟩
 unfold t78
 simp -implicitDefEqProofs only [b1, z2, l0, e3, e4, e5, l5', e6, ck, af, ak, Bool.and_true, a8, a7]
 exact res_tmp_cell results78 agg82 siz82 (show 5<16 by decide) (show 4<16 by decide) _ lw
set_option maxRecDepth 100000 in
theorem r79 : ∃ a p v' h',CW 79 [v] h=some (.tuple #[.slice a c.word.1.length p,v'],h')∧ay a c.word.1.length h'=some c.word.1∧cn a c.word.1.length p=true∧(∀ y,a=some y→h.next≤y.block)∧ej h' N v' c.word.2∧Old h h':=by
 obtain ⟨h1,b1,o1,X1,n1⟩:=x.box
 obtain ⟨h2,z2,o2,Z2,n2⟩:=fT h1 N
 have O2:=o1.trans o2
 have X2:=X1.bA o2
 obtain ⟨v0,V0,_,l0,_⟩:=X2.ld
 have l0:=l0 h2 rfl
 obtain ⟨v',h3,e3,V3,o3⟩:=r78 (h:=h2) (by rw [O2.n0];exact hG) (by omega) V0 (n:=2) (by decide)
 have e3:CW 78 [v0,.int .i64 2] h2=_:=e3
 have O3:=O2.trans o3
 obtain ⟨h4,e4,k4,B4,n4⟩:=(X2.bA o3).put V3 (by rw [O3.n0];exact h.aK) hN
 have O4:Old h h4:=O3.cE k4 (fun d hd e=>by omega)
 obtain ⟨v5,V5,vq5,l5,_⟩:=B4.ld
 have l5':=l5 h4 rfl
 have hb:Bys c.l:=x.bys
 have hlt:(c.num 2).1<65536:=be_lt' (n:=2) (by rw [Cu.eD];exact Nat.le_refl _) (Cu.take_bys hb 2).1
 have cv:fc .i64 (.int .u64 (((c.num 2).1:Nat):Int)) h4=some (aH (c.num 2).1,h4):=by
  unfold aH
  rw [bq,wrap_i64 (by omega) (by omega)]
 obtain ⟨a,p,v6,h6,e6,s6,g6,f6,V6,o6⟩:=r81 (h:=h4) (by rw [O4.n0];exact hG) (by have:=O4.next;omega) V5 (n:=(c.num 2).1) (by omega)
 have O6:=O4.trans o6
 have Z6:CutB h6 N h1.next ⟨[],false⟩:=((Z2.bA o3).bF k4 (by omega) (fun b e=>by omega)).bA o6
 obtain ⟨h7,e7,k7,B7,n7⟩:=Z6.put V6 (by rw [O6.n0];have:=h.aK;omega) (by omega)
 have O7:Old h h7:=O6.cE k7 (fun d hd e=>by omega)
 obtain ⟨w,W,_,lw,_⟩:=B7.ld
 have lw:=lw h7 rfl
 have hwl:c.word.1.length=(c.num 2).1:=Cu.eD _ _
 have nx4:=O4.next
 have s7:ay a (c.num 2).1 h7=some c.word.1:=k7.bytes s6 (fun y hy _ e=>by have:=f6 y hy;have e:y.block=h1.next:=e;have:=o2.next;have:=o3.next;omega)
 refine ⟨a,p,w,h7,aF is79 hG rfl ((t79_eq _ _ _).trans ?_),by rw [hwl];exact s7,by rw [hwl];exact g6,fun y hy=>by have:=f6 y hy;omega,W,O7⟩
 unfold t79
 rw [hwl]
 simp -implicitDefEqProofs only [b1, z2, l0, e3, e4, l5', cv, e6, e7, af, ak, a8, a7]
 exact res_tmp_cell results79 agg82 siz82 (show 3<16 by decide) (show 2<16 by decide) _ lw
end
end Go.Proofs.YtjghlcdidopcpaaGreatDoor

namespace Go.Proofs.YtjghlcdidopcpaaGreatDoor
open Go Go.Abs
attribute [local congr] aU
theorem b80_exit (C:au) (e:Env) (h:aj):b80_5 C 0 e h=k80_3 C e h:=rfl
def upTo (l:List Nat) (n i:Nat):List Nat:=l.take i++List.replicate (n-i) 0
theorem upTo_set {l:List Nat} {n i:Nat} (hl:l.length=n) (hi:i<n):(upTo l n i).set i (l.getD i 0)=upTo l n (i+1):=by
 unfold upTo
 obtain ⟨k,hk⟩ : ∃ k,n-i=k+1:=⟨n-i-1,by omega⟩
 rw [hk,show n-(i+1)=k by omega,List.replicate_succ,List.set_append_right _ _ (by rw [List.length_take];omega),List.length_take,Nat.min_eq_left (by omega),Nat.sub_self,List.set_cons_zero]
 have ht:l.take (i+1)=l.take i ++ [l.getD i 0]:=take_snocN (by omega)
 rw [ht,List.append_assoc]
 rfl
theorem upTo_len {l:List Nat} {n i:Nat} (hl:l.length=n) (hi:i≤n):(upTo l n i).length=n:=by
 unfold upTo
 rw [List.length_append,List.length_take,List.length_replicate]
 omega
theorem upTo_all {l:List Nat} {n:Nat} (hl:l.length=n):upTo l n n=l:=by
 unfold upTo
 rw [Nat.sub_self,List.take_of_length_le (by omega)]
 exact List.append_nil l
def dgInv (h0:aj) (D:Nat) (a:Option Addr) (p:Nat) (l:List Nat) (Y:Nat→Value) (k:Nat) (y:Nat→Value) (g:aj):Prop:=
 ∃ i,i+k=32∧y 6=aH i∧y 4 = .slice a 32 p∧y 5=ptr D 0∧y 1=Y 1∧y 2=Y 2∧y 3=Y 3∧Kept h0 g (· = D)∧g.get D=some (bP (upTo l 32 i))
def dgFin (h0:aj) (D:Nat) (l:List Nat) (Y:Nat→Value) (ex:Ex) (y:Nat→Value) (g:aj):Prop:=
 ex = .exit 0∧y 5=ptr D 0∧y 1=Y 1∧y 2=Y 2∧y 3=Y 3∧Kept h0 g (· = D)∧g.get D=some (bP l)
theorem idxA32 (D i:Nat) (hi:i<32):idxA 32 1 (ptr D 0) (aH i)=some (ptr D i):=by
 unfold idxA aH
 simp only
 rw [if_pos (by omega),al,Int.toNat_natCast,Nat.mul_one,Nat.zero_add]
theorem dgRound {h0:aj} {D:Nat} {a:Option Addr} {p:Nat} {l:List Nat} {Y:Nat→Value} (e:ay a 32 h0=some l) (hD:h0.n0≤D) (ha : ∀ y,a=some y→y.block≠D) : ∀ k y g,dgInv h0 D a p l Y k y g→dd 24 (dgInv h0 D a p l Y) (dgFin h0 D l Y) k (t80l80_111010 CW y g):=by
 rintro k y g ⟨i,hik,y6,y4,y5,y1,y2,y3,K,gD⟩
 have hl:=(aw e).1
 have l32:bin Tryz.prog .lss 3 (aH i) (.int .i64 32)=some (.bool (decide (i<32))):=dg i 32
 unfold t80l80_111010
 by_cases hi:i<32
 ·rw [decide_eq_true hi] at l32
  have eg:ay a 32 g=some l:=K.bytes e (fun y hy _=>ha y hy)
  obtain ⟨b,q,_,i1,i2⟩:=byte_at (c:=p) eg hi
  have i3:=idxA32 D i hi
  have hlt:l.getD i 0<256:=by
   rw [List.getD_eq_getElem?_getD,List.getElem?_eq_getElem (by omega)]
   exact (aw e).2.1 _ (List.getElem_mem _)
  obtain ⟨g',e',k',g1,_,_⟩:=stored (o:=i) (v:=u8 (l.getD i 0)) gD (by rw [K.n0];exact hD) (by rw [List.length_map,upTo_len hl (by omega)];exact hi) rfl rfl
  rw [show (bP (upTo l 32 i)).set i (u8 (l.getD i 0))=bP (upTo l 32 (i+1)) by rw [←upTo_set hl hi];exact (List.map_set ..).symm] at g1
  simp -implicitDefEqProofs only [y6, y4, y5, l32, i1, i2, i3, e', ee (show i+1≤9223372036854775807 by omega), af, ak]
  exact dd.next (k-1) (by omega) ⟨i+1,by omega,rfl,y4,y5,y1,y2,y3,K.trans k',g1⟩
 ·rw [decide_eq_false hi] at l32
  obtain rfl:i=32:=by omega
  rw [upTo_all hl] at gD
  simp -implicitDefEqProofs only [y6, l32, af, ak]
  exact dd.out 0 ⟨rfl,y5,y1,y2,y3,K,gD⟩
theorem u8s_veq (l:List Nat):fb (.agg (bP l).toArray) (.agg (bP l).toArray)=true:=by
 show veqL (bP l) (bP l)=true
 refine veqL_of _ fun v hv => ?_
 obtain ⟨x,_,rfl⟩:=List.mem_map.1 hv
 simp [fb]
section
variable {h:aj} {N:Nat} {v:Value} {c:Cu} (hG:4≤h.n0) (hN:N≤h.next) (x:ej h N v c)
include hG hN x
set_option maxRecDepth 100000 in
theorem r80 : ∃ v' h',CW 80 [v] h=some (.tuple #[.agg (bP (c.take 32).1).toArray,v'],h')∧ej h' N v' (c.take 32).2∧Old h h':=by
 obtain ⟨h1,b1,o1,X1,n1⟩:=x.box
 obtain ⟨h2,z2,o2,g2,n2⟩:=fresh (List.replicate 32 (.int .u8 0)) h1
 obtain ⟨h3,z3,o3,Z3,n3⟩:=fT h2 N
 have O3:=o1.trans (o2.trans o3)
 have X3:=(X1.bA o2).bA o3
 obtain ⟨v0,V0,_,l0,_⟩:=X3.ld
 have l0:=l0 h3 rfl
 obtain ⟨a,p,v',h4,e4,s4,gs4,f4,V4,o4⟩:=r81 (h:=h3) (by rw [O3.n0];exact hG) (by omega) V0 (n:=32) (by decide)
 have e4:CW 81 [v0,.int .i64 32] h3=_:=e4
 have O4:=O3.trans o4
 have hn0:=h.aK
 have nx4:=o4.next
 obtain ⟨h5,e5,k5,B5,n5⟩:=(X3.bA o4).put V4 (by rw [O4.n0];exact hn0) hN
 have s5:ay a 32 h5=some (c.take 32).1:=k5.bytes s4 (fun y hy _ e=>by have:=f4 y hy;have e:y.block=h.next:=e;omega)
 obtain ⟨h6,z6,o6,g6,n6⟩:=fresh (List.replicate 32 (.int .u8 0)) h5
 have O6:Old h h6:=(O4.cE k5 (fun d hd e=>by omega)).trans o6
 have hl:(c.take 32).1.length=32:=Cu.eD _ _
 have alt : ∀ y,a=some y→y.block<h5.next:=fun y hy=>by
  obtain ⟨b,off,s,k,e,hk,_⟩:=(aw s5).2.2 (by decide)
  rw [hy] at e
  cases e
  exact h5.bc hk
 have G2:h6.get h1.next=some (List.replicate 32 (.int .u8 0)):=Old.get o6 (k5.dj (Old.get o4 (Old.get o3 g2)) (by omega))
 have B6:=B5.bA o6
 have Z6:CutB h6 N h2.next ⟨[],false⟩:=((Z3.bA o4).bF k5 (by omega) (fun b e=>by omega)).bA o6
 have fin : ∀ y,y 1=ptr h.next 0→y 2=ptr h1.next 0→y 3=ptr h2.next 0→y 4 = .slice a 32 p→y 5=ptr h5.next 0→y 6 = .int .i64 0 →
   ∃ v' h',dX (iter (aM Tryz.prog CW (partOf Tryz.f80 [1,1,1,0,1,0,0])) rounds (aJ 24 y) h6) (ar Tryz.prog Tryz.f80.results.toList) (b80_5 CW)=some (.tuple #[.agg (bP (c.take 32).1).toArray,v'],h')∧ej h' N v' (c.take 32).2∧Old h h':=by
  intro y y1 y2 y3 y4 y5 y6
  refine bY (Q:=fun o:Out => ∃ v' h',o=some (Value.tuple #[.agg (bP (c.take 32).1).toArray,v'],h')∧ej h' N v' (c.take 32).2∧Old h h') (bZ (t80l80_111010_eq CW) (dgRound (h0:=h6) (D:=h5.next) (a:=a) (p:=p) (l:=(c.take 32).1) (Y:=y) (Old.bytes o6 s5) (by rw [o6.n0];exact h5.aK) (fun y hy e=>by have:=alt y hy;omega)) 32 (by decide) ⟨0,rfl,y6,y4,y5,rfl,rfl,rfl,Kept.refl _ _,g6⟩) ?_
  rintro ex w g ⟨rfl,w5,w1,w2,w3,K,gD⟩
  rw [y1] at w1
  rw [y2] at w2
  rw [y3] at w3
  have OK:Old h g:=O6.cE K (fun d hd e=>by omega)
  have BK:CutB g N h.next (c.take 32).2:=B6.bF K (by omega) (fun b e=>by omega)
  have ZK:CutB g N h2.next ⟨[],false⟩:=Z6.bF K (by omega) (fun b e=>by omega)
  have GK:g.get h1.next=some (List.replicate 32 (.int .u8 0)):=K.dj G2 (by omega)
  rw [bE,b80_exit,t80k80_3_eq]
  have dl:bD 32 (ptr h5.next 0) g=some (.agg (bP (c.take 32).1).toArray,g):=cA gD (by rw [List.length_map];exact hl) (cJ _).1
  obtain ⟨v7,V7,vq7,l7,_⟩:=BK.ld
  obtain ⟨g1,e8,k8,g8,_,n8⟩:=bJ (n:=32) (k':=bP (c.take 32).1) GK (by rw [OK.n0];omega) rfl (by rw [List.length_map];exact hl) (cJ _).2
  have l7a:=l7 g rfl
  have l7b:=l7 g1 (k8.get _ BK.lt (by omega))
  have O8:Old h g1:=OK.cE k8 (fun d hd e=>by omega)
  have ZK1:CutB g1 N h2.next ⟨[],false⟩:=ZK.bF k8 (by omega) (fun b e=>by omega)
  have V8:ej g1 N v7 (c.take 32).2:=V7.bF k8 (fun b e=>by omega)
  obtain ⟨g2',e9,k9,B9,n9⟩:=ZK1.put V8 (by rw [O8.n0];omega) (by omega)
  have O9:Old h g2':=O8.cE k9 (fun d hd e=>by omega)
  obtain ⟨u,U,_,lu,_⟩:=B9.ld
  have lu:=lu g2' rfl
  have ld2:bD 32 (ptr h1.next 0) g2'=some (.agg (bP (c.take 32).1).toArray,g2'):=cA (k9.dj g8 (by omega)) (by rw [List.length_map];exact hl) (cJ _).1
  have ck:=fM (o:=some (v7,g1)) rfl vq7
  refine ⟨u,g2',?_,U,O9⟩
  unfold t80k80_3
  simp -implicitDefEqProofs only [w1, w2, w3, w5, dl, l7a, l7b, e8, e9, ck, af, Bool.and_self]
  rw [←w2] at ld2
  rw [←w3] at lu
  exact fD results80 agg28 siz28 agg82 siz82 (show 2<24 by decide) (show 3<24 by decide) (up w [_,_]) ld2 lu
 have key : ∃ v' h',t80 CW v h=some (.tuple #[.agg (bP (c.take 32).1).toArray,v'],h')∧ej h' N v' (c.take 32).2∧Old h h':=by
  unfold t80
  simp -implicitDefEqProofs only [b1, z2, z3, l0, e4, e5, z6, af, ak, a8, a7]
  exact fin _ rfl rfl rfl rfl rfl rfl
 obtain ⟨v',h',e,r⟩:=key
 exact ⟨v',h',aF is80 hG rfl ((t80_eq _ _ _).trans e),r⟩
end
theorem be_one (x:Nat):be [x]=x:=by unfold be;simp
theorem be_two (x y:Nat):be [x,y]=x*256+y:=by unfold be;simp
theorem r37 {h:aj} (hG:4≤h.n0) {a:Option Addr} {n c:Nat} {l:List Nat} (hl:ay a n h=some l) (hg:10≤n→cn a n c=true) (hn:n≤1000000):CW 37 [.slice a n c] h=some (.tuple #[.int .i64 ((cH l).1:Int),.int .i64 (cH l).2],h):=by
 obtain ⟨hlen,hby,_⟩:=aw hl
 have hln:bG (.slice a n c)=some (aH n):=rfl
 have cj:bin Tryz.prog .lss 3 (aH n) (.int .i64 10)=some (.bool (decide (n<10))):=dg n 10
 refine aF is37 hG rfl ((t37_eq _ _ _).trans ?_)
 unfold t37 cH
 by_cases c1:l.length<10
 ·rw [if_pos c1]
  rw [decide_eq_true (by omega)] at cj
  simp -implicitDefEqProofs only [hln, cj, af, ak]
  rfl
 rw [if_neg c1]
 rw [decide_eq_false (by omega)] at cj
 have gd : ∀ i,i<10→l.getD i 0<256:=fun i hi=>by
  rw [List.getD_eq_getElem?_getD,List.getElem?_eq_getElem (by omega)]
  exact hby _ (List.getElem_mem _)
 obtain ⟨p0,j0,f0⟩:=byte_rd (c:=c) (i:=0) hl (by omega)
 obtain ⟨p1,j1,f1⟩:=byte_rd (c:=c) (i:=1) hl (by omega)
 obtain ⟨p2,j2,f2⟩:=byte_rd (c:=c) (i:=2) hl (by omega)
 have f0:=f0 h (Kept.refl _ _)
 have f1:=f1 h (Kept.refl _ _)
 have f2:=f2 h (Kept.refl _ _)
 have j0:bB 1 (.slice a n c) (.int .i64 0)=some p0:=j0
 have j1:bB 1 (.slice a n c) (.int .i64 1)=some p1:=j1
 have j2:bB 1 (.slice a n c) (.int .i64 2)=some p2:=j2
 have q0:bin Tryz.prog .neq 5 (.int .u8 ((l.getD 0 0:Nat):Int)) (.int .u8 83)=some (.bool (((l.getD 0 0:Nat):Int) != 83)):=ax ..
 have q1:bin Tryz.prog .neq 5 (.int .u8 ((l.getD 1 0:Nat):Int)) (.int .u8 87)=some (.bool (((l.getD 1 0:Nat):Int) != 87)):=ax ..
 have q2:bin Tryz.prog .neq 5 (.int .u8 ((l.getD 2 0:Nat):Int)) (.int .u8 1)=some (.bool (((l.getD 2 0:Nat):Int) != 1)):=ax ..
 have t2:l.take 2 = [l.getD 0 0,l.getD 1 0]:=by
  have h1:l.take 1 = [l.getD 0 0]:=by have:=drop_one (l:=l) (i:=0) (by omega);rwa [List.drop_zero] at this
  have h2:=take_snocN (l:=l) (i:=1) (by omega)
  rw [h2,h1]
  rfl
 have g0:=gd 0 (by decide)
 have g1:=gd 1 (by decide)
 have g2:=gd 2 (by decide)
 rw [t2,be_two,drop_one (by omega),be_one]
 generalize l.getD 0 0=x0 at *
 generalize l.getD 1 0=x1 at *
 generalize l.getD 2 0=x2 at *
 by_cases c2:x0*256+x1≠21335
 ·rw [if_pos c2]
  by_cases d0:x0=83
  ·rw [show (((x0:Nat):Int) != 83)=false by rw [d0];rfl] at q0
   rw [show (((x1:Nat):Int) != 87)=true by simp;omega] at q1
   simp -implicitDefEqProofs only [hln, cj, j0, f0, q0, j1, f1, q1, af, ak, ao, beq_self_eq_true, ai, Bool.false_eq_true, if_false]
   rfl
  ·rw [show (((x0:Nat):Int) != 83)=true by simp;omega] at q0
   simp -implicitDefEqProofs only [hln, cj, j0, f0, q0, af, ak, ao, sf, ah, if_true]
   rfl
 have d0:x0=83:=by omega
 have d1:x1=87:=by omega
 rw [if_neg c2]
 rw [show (((x0:Nat):Int) != 83)=false by rw [d0];rfl] at q0
 rw [show (((x1:Nat):Int) != 87)=false by rw [d1];rfl] at q1
 by_cases c3:x2≠1
 ·rw [if_pos c3]
  rw [show (((x2:Nat):Int) != 1)=true by simp;omega] at q2
  simp -implicitDefEqProofs only [hln, cj, j0, f0, q0, j1, f1, q1, j2, f2, q2, af, ak, ao, beq_self_eq_true, ai, Bool.false_eq_true, if_false]
  rfl
 rw [if_neg c3]
 rw [show (((x2:Nat):Int) != 1)=false by rw [Decidable.not_not.1 c3];rfl] at q2
 obtain ⟨a3,c3',z3,s3,gs3⟩:=slR_mid (c:=c) (lo:=6) (hi:=10) (hg (by omega)) hl (by decide) (by omega)
 have z3:slR 1 (.slice a n c) (some (.int .i64 6)) (some (.int .i64 10)) none=some (.slice a3 (10-6) c3'):=z3
 have e4:=r38 hG (c:=c3') s3 (by decide)
 have hb4:be ((l.drop 6).take (10-6))<4294967296:=be_lt' (n:=4) (by rw [List.length_take];omega) (fun x hx=>hby x (List.mem_of_mem_drop (List.mem_of_mem_take hx)))
 show _=some (Value.tuple #[.int .i64 ((if 20000<be ((l.drop 6).take (10-6)) then (0,3) else (be ((l.drop 6).take (10-6))+14,0):Nat×Int).1:Int),.int .i64 (if 20000<be ((l.drop 6).take (10-6)) then (0,3) else (be ((l.drop 6).take (10-6))+14,0):Nat×Int).2],h)
 generalize be ((l.drop 6).take (10-6))=B at *
 have q4:bin Tryz.prog .gtr 25 (.int .u64 (B:Int)) (.int .u64 20000)=some (.bool (decide ((B:Int)>20000))):=aB ..
 by_cases c4:20000<B
 ·rw [if_pos c4]
  rw [decide_eq_true (by omega)] at q4
  simp -implicitDefEqProofs only [hln, cj, j0, f0, q0, j1, f1, q1, j2, f2, q2, z3, e4, q4, af, ak, ao, beq_self_eq_true, ai, Bool.false_eq_true, if_false]
  rfl
 rw [if_neg c4]
 rw [decide_eq_false (by omega)] at q4
 have cv:fc .i64 (.int .u64 (B:Int)) h=some (aH B,h):=by
  unfold aH
  rw [bq,wrap_i64 (by omega) (by omega)]
 have ad:bin Tryz.prog .add 3 (.int .i64 14) (aH B)=some (aH (B+14)):=by
  have:=add3 (a:=14) (b:=B) (by omega)
  rw [Nat.add_comm] at this
  exact this
 simp -implicitDefEqProofs only [hln, cj, j0, f0, q0, j1, f1, q1, j2, f2, q2, z3, e4, q4, cv, ad, af, ak, ao, beq_self_eq_true, ai, Bool.false_eq_true, if_false]
end Go.Proofs.YtjghlcdidopcpaaGreatDoor

namespace Go.Proofs.YtjghlcdidopcpaaGreatDoor
open Go Go.Abs
attribute [local congr] aU
def GZ (h:aj):Prop:=h.get 0=some (bP z32)
theorem GZ.bA {h h':aj} (x:GZ h) (o:Old h h'):GZ h':=Old.get o x
theorem GZ.ld {h:aj} (x:GZ h):bD 32 (ptr 0 0) h=some (.agg (bP z32).toArray,h):=cA x rfl (cJ _).1
theorem GZ.bF {h h':aj} {B:Nat→Prop} (x:GZ h) (k:Kept h h' B) (hB : ¬B 0):GZ h':=k.dj x hB
theorem is59:bO Tryz.prog 59 Tryz.f59:=⟨by kernel_rfl,by kernel_rfl,by kernel_rfl,by kernel_rfl⟩
theorem r59 {h:aj} (hG:4≤h.n0) (i:Int):CW 59 [.int .i64 i] h=some (.bool (gw i),h):=by
 have e:gw i=(decide (i≥0)&&decide (i≤15)):=by
  unfold gw
  congr 1
  exact decide_eq_decide.2 (by omega)
 rw [e]
 refine aF is59 hG rfl ((t59_eq _ _ _).trans ?_)
 unfold t59
 cases q0:decide (i≥0) with
 |false=>simp -implicitDefEqProofs only [af, af, ak, ao, fs, ah, Bool.false_eq_true, if_false, aE, q0, Bool.false_and]
 |true=>
 cases q1:decide (i≤15) with
 |false=>simp -implicitDefEqProofs only [af, af, ak, ao, beq_self_eq_true, ai, if_true, aE, aD, q0, q1, Bool.and_false]
 |true=>
 simp -implicitDefEqProofs only [af, af, ak, ao, beq_self_eq_true, ai, if_true, aE, aD, q0, q1, Bool.and_true]
theorem is92:bO Tryz.prog 92 Tryz.f92:=⟨by kernel_rfl,by kernel_rfl,by kernel_rfl,by kernel_rfl⟩
theorem r92 {h:aj} (hG:4≤h.n0) (k n t:Int):CW 92 [.int .i64 k,.int .i64 n,.int .i64 t] h=some (.bool (dW k n t),h):=by
 refine aF is92 hG rfl ((t92_eq _ _ _ _ _).trans ?_)
 unfold t92 dW
 cases q0:decide (1≤k) with
 |false=>simp -implicitDefEqProofs only [af, af, ak, ao, fs, ah, Bool.false_eq_true, if_false, aD, q0, Bool.false_and]
 |true=>
 cases q1:decide (k≤n) with
 |false=>simp -implicitDefEqProofs only [af, af, ak, ao, fs, beq_self_eq_true, ai, ah, Bool.false_eq_true, if_false, if_true, aD, q0, q1, Bool.and_false, Bool.false_and]
 |true=>
 cases q2:decide (n≤t) with
 |false=>simp -implicitDefEqProofs only [af, af, ak, ao, fs, beq_self_eq_true, ai, ah, Bool.false_eq_true, if_false, if_true, aD, q0, q1, q2, Bool.and_true, Bool.and_false, Bool.false_and]
 |true=>
 cases q3:decide (t≤255) with
 |false=>simp -implicitDefEqProofs only [af, af, ak, ao, beq_self_eq_true, ai, if_true, aD, q0, q1, q2, q3, Bool.and_true, Bool.and_false]
 |true=>
 simp -implicitDefEqProofs only [af, af, ak, ao, beq_self_eq_true, ai, if_true, aD, q0, q1, q2, q3, Bool.and_true]
theorem is91:bO Tryz.prog 91 Tryz.f91:=⟨by kernel_rfl,by kernel_rfl,by kernel_rfl,by kernel_rfl⟩
theorem r91 {h:aj} (hG:4≤h.n0) (m:eC) : ∃ h',CW 91 [.agg (di m).toArray] h=some (.bool (memB m),h')∧Old h h':=by
 obtain ⟨h1,b1,o1,l0,l1,-⟩:=mem_box h m
 refine ⟨h1,aF is91 hG rfl ((t91_eq _ _ _).trans ?_),o1⟩
 unfold t91 memB
 cases q0:decide ((m.st:Int)≤4) with
 |false=>simp -implicitDefEqProofs only [b1, l1, af, ak, ao, fs, ah, Bool.false_eq_true, if_false, al, Nat.zero_add, aD, q0, Bool.false_and]
 |true=>
 simp -implicitDefEqProofs only [b1, l0, l1, eql_bool, af, ak, ao, beq_self_eq_true, ai, if_true, al, Nat.zero_add, aD, az, q0, Bool.true_and]
theorem is61:bO Tryz.prog 61 Tryz.f61:=⟨by kernel_rfl,by kernel_rfl,by kernel_rfl,by kernel_rfl⟩
theorem results61:Tryz.f61.results.toList = [.tmp 2]:=by kernel_rfl
theorem b61_exit (C:au) (e:Env) (h:aj):b61_6 C 0 e h=k61_4 C e h:=rfl
def vtInv (h0:aj) (v:Value) (l:List eC) (k:Nat) (y:Nat→Value) (g:aj):Prop:=
 ∃ i,i+k=l.length∧y 0=v∧y 3=aH i∧Old h0 g∧(l.take i).any (fun m => !memB m)=false
def vtFin (h0:aj) (l:List eC) (ex:Ex) (y:Nat→Value) (g:aj):Prop:=
 Old h0 g∧((ex = .ret∧y 2 = .bool false∧l.any (fun m => !memB m)=true)∨(ex = .exit 0∧l.any (fun m => !memB m)=false))
theorem vtRound {h0:aj} {v:Value} {l:List eC} (hG:4≤h0.n0) (x:dh h0 memK v l.length (l.flatMap di)) (hw : ∀ x∈l,x.Wf) (hl:l.length≤1000000) : ∀ k y g,vtInv h0 v l k y g→dd 24 (vtInv h0 v l) (vtFin h0 l) k (t61l61_11010 CW y g):=by
 rintro k y g ⟨i,hik,y0,y3,o,ha⟩
 unfold t61l61_11010
 by_cases hi:i<l.length
 ·obtain ⟨b,q,kb,_,a1,_,_,_,a2,_⟩:=(x.bA o).at hi
  obtain ⟨m,hm⟩ : ∃ m,l[i]? = some m:=⟨l[i],List.getElem?_eq_getElem hi⟩
  have a1:bB 2 v (aH i)=some (ptr b (q+i*2)):=a1
  have a2:bD 2 (ptr b (q+i*2)) g=some (.agg (el 2 (l.flatMap di) i).toArray,g):=a2
  rw [el_flat157 hw hm] at a2
  obtain ⟨g',e,o'⟩:=r91 (h:=g) (by rw [o.n0];exact hG) m
  have hs:(l.take (i+1)).any (fun m => !memB m) = !memB m:=by
   rw [List.take_add_one,hm,List.any_append,ha]
   simp
  simp -implicitDefEqProofs only [y3,dg,y0,x.len,decide_eq_true hi,af,ak,a1,a2,e,av]
  cases hp:memB m with
  |true=>
   simp -implicitDefEqProofs only [Bool.not_true, af, ak, ee (show i+1≤9223372036854775807 by omega)]
   exact dd.next (k-1) (by omega) ⟨i+1,by omega,y0,rfl,o.trans o',by rw [hs,hp];rfl⟩
  |false=>
   simp -implicitDefEqProofs only [Bool.not_false]
   refine dd.ret ⟨o.trans o',.inl ⟨rfl,rfl,?_⟩⟩
   rw [List.any_eq_true]
   exact ⟨m,List.mem_of_getElem? hm,by rw [hp];rfl⟩
 ·simp -implicitDefEqProofs only [y3,y0,x.len,dg,decide_eq_false hi,af,ak]
  refine dd.out 0 ⟨o,.inr ⟨rfl,?_⟩⟩
  rw [List.take_of_length_le (by omega)] at ha
  exact ha
theorem r61 {h:aj} {v:Value} {l:List eC} (hG:4≤h.n0) (x:dh h memK v l.length (l.flatMap di)) (hw : ∀ x∈l,x.Wf) : ∃ h',CW 61 [v] h=some (.bool (tableB l),h')∧Old h h':=by
 have q1:bin Tryz.prog .lss 3 (aH l.length) (.int .i64 1)=some (.bool (decide (l.length<1))):=dg l.length 1
 have q2:bin Tryz.prog .gtr 3 (aH l.length) (.int .i64 16)=some (.bool (decide (16<l.length))):=gtr3 l.length 16
 have key : ∃ h',t61 CW v h=some (.bool (tableB l),h')∧Old h h':=by
  unfold t61 tableB
  by_cases c1:l.length<1
  ·rw [decide_eq_true c1] at q1
   refine ⟨h,?_,Kept.refl _ _⟩
   rw [decide_eq_false (by omega)]
   simp -implicitDefEqProofs only [x.len, q1, af, ak, ao, sf, ah, if_true, Bool.false_and]
  rw [decide_eq_false c1] at q1
  by_cases c2:16<l.length
  ·rw [decide_eq_true c2] at q2
   refine ⟨h,?_,Kept.refl _ _⟩
   rw [decide_eq_true (by omega),decide_eq_false (by omega)]
   simp -implicitDefEqProofs only [x.len, q1, q2, af, ak, ao, beq_self_eq_true, ai, Bool.false_eq_true, if_false, Bool.false_and, Bool.and_false]
  rw [decide_eq_false c2] at q2
  rw [decide_eq_true (by omega),decide_eq_true (by omega)]
  simp -implicitDefEqProofs only [x.len, q1, q2, af, ak, ao, beq_self_eq_true, ai, Bool.false_eq_true, if_false, Bool.true_and]
  refine bY (Q:=fun o:Out => ∃ h',o=some (Value.bool (!(l.any fun m => !memB m)),h')∧Old h h') (bZ (t61l61_11010_eq CW) (vtRound hG x hw (by omega)) l.length (by have:rounds=18446744073709551616:=rfl;omega)
   ⟨0,Nat.zero_add _,rfl,rfl,Kept.refl _ _,rfl⟩) ?_
  rintro ex z g ⟨o,⟨rfl,z2,ha⟩|⟨rfl,ha⟩⟩
  ·rw [dG,fG results61 (by decide),z2,ha]
   exact ⟨g,rfl,o⟩
  ·rw [bE,b61_exit,t61k61_4_eq,ha]
   exact ⟨g,rfl,o⟩
 obtain ⟨h',e,o⟩:=key
 exact ⟨h',aF is61 hG rfl ((t61_eq _ _ _).trans e),o⟩
theorem is63:bO Tryz.prog 63 Tryz.f63:=⟨by kernel_rfl,by kernel_rfl,by kernel_rfl,by kernel_rfl⟩
theorem r63 {h:aj} {s:cR} {m:aO} (hG:4≤h.n0) (x:Has h s m) : ∃ h',CW 63 [gv m s] h=some (.bool (!manBad m),h')∧Old h h':=by
 have c:=man_ok x.sl (aO.ok x.wf)
 have b1:box (gv m s) h=some (ptr h.next 0,h.alloc (m.d.eM s)):=fz h _ c.2.1
 have o1:Old h (h.alloc (m.d.eM s)):=Kept.alloc _ _ _
 have g1:(h.alloc (m.d.eM s)).get h.next=some (m.d.eM s):=by rw [aj.aS,if_pos rfl]
 generalize h.alloc (m.d.eM s)=h1 at *
 have A:=man_ld (x.sl.bA o1) (aO.ok x.wf) g1
 have l0:aN (ptr h.next 0) h1=some (.int .i64 m.gk,h1):=A.l0
 have l1:aN (ptr h.next 1) h1=some (.int .i64 m.gn,h1):=A.l1
 have l2:aN (ptr h.next 2) h1=some (.int .i64 m.gt,h1):=A.l2
 have l3:aN (ptr h.next 3) h1=some (.int .i64 m.gs,h1):=A.l3
 have e2:=r92 (h:=h1) (by rw [o1.n0];exact hG) m.gk m.gn m.gt
 have ln:=x.len.2.2.2.2.1
 have e:(!manBad m)=(dW m.gk m.gn m.gt&&decide (m.gs≥0)&&decide (m.gs≤8192)&&((m.pieces.length:Int)==m.gt)):=by
  unfold manBad
  have p1:decide (m.gs<0) = !decide (m.gs≥0):=by rw [←decide_not];exact decide_eq_decide.2 (by omega)
  have p2:decide (m.gs>8192) = !decide (m.gs≤8192):=by rw [←decide_not];exact decide_eq_decide.2 (by omega)
  rw [p1,p2]
  cases dW m.gk m.gn m.gt<;>cases decide (m.gs≥0)<;>cases decide (m.gs≤8192)<;>cases h:((m.pieces.length:Int)==m.gt)<;>simp [bne,h]
 refine ⟨h1,aF is63 hG rfl ((t63_eq _ _ _).trans ?_),o1⟩
 rw [e]
 unfold t63
 cases q0:dW m.gk m.gn m.gt with
 |false=>simp -implicitDefEqProofs only [b1, l0, l1, l2, e2, af, ak, ao, fs, ah, Bool.false_eq_true, if_false, al, Nat.zero_add, q0, Bool.false_and]
 |true=>
 cases q1:decide (m.gs≥0) with
 |false=>simp -implicitDefEqProofs only [b1, l0, l1, l2, l3, e2, af, ak, ao, fs, beq_self_eq_true, ai, ah, Bool.false_eq_true, if_false, if_true, al, Nat.zero_add, aE, q0, q1, Bool.and_false, Bool.false_and]
 |true=>
 cases q2:decide (m.gs≤8192) with
 |false=>simp -implicitDefEqProofs only [b1, l0, l1, l2, l3, e2, af, ak, ao, fs, beq_self_eq_true, ai, ah, Bool.false_eq_true, if_false, if_true, al, Nat.zero_add, aE, aD, q0, q1, q2, Bool.and_true, Bool.and_false, Bool.false_and]
 |true=>
 simp -implicitDefEqProofs only [b1, l0, l1, l2, l3, A.fa, e2, ln, aH, af, ak, ao, beq_self_eq_true, ai, if_true, al, Nat.zero_add, aE, aD, az, q0, q1, q2, Bool.and_true, Bool.true_and]
def personB (r:bK):Bool:=decide (r.dq≥0)&&decide (r.dq≤15)&&decide ((r.inc:Int)≥1)
def bareB (r:bK):Bool:=((r.num:Int)==0)&&(!r.held)&&(r.k==0)&&(r.n==0)
theorem person_seg {h:aj} {b:Nat} {r:bK} (A:RLd h b r) (K:Value→aj→Out) :
 (
 ae (pu (aA (ptr b 0) 33) h) fun y5 h=>
 ae (aN y5 h) fun y6 h=>
 ae (pu (bin Tryz.prog .geq 3 y6 (.int .i64 0)) h) fun y7 h=>
 ae (some (y7,h)) fun y8 h=>
 ae (aq (aI y8==some true) (pu (aA (ptr b 0) 33) h) h) fun y9 h=>
 ae (aq (aI y8==some true) (aN y9 h) h) fun y10 h=>
 ae (aq (aI y8==some true) (pu (bin Tryz.prog .leq 3 y10 (.int .i64 15)) h) h) fun y11 h=>
 ae (match y8 with | .bool t=>some (if t then y11 else (.bool false),h)|_=>none) fun y12 h=>
 ae (some (y12,h)) fun y13 h=>
 ae (aq (aI y13==some true) (pu (aA (ptr b 0) 34) h) h) fun y14 h=>
 ae (aq (aI y13==some true) (aN y14 h) h) fun y15 h=>
 ae (aq (aI y13==some true) (pu (bin Tryz.prog .geq 25 y15 (.int .u64 1)) h) h) fun y16 h=>
 ae (match y13 with | .bool t=>some (if t then y16 else (.bool false),h)|_=>none) fun y17 h=>
 ae (some (y17,h)) fun y3 h=>
 K y3 h)=K (.bool (personB r)) h:=by
 unfold personB
 cases q0:decide (r.dq≥0) with
 |false=>simp -implicitDefEqProofs only [A.l33, af, ak, ao, fs, ah, Bool.false_eq_true, if_false, al, Nat.zero_add, aE, q0, Bool.false_and]
 |true=>
 cases q1:decide (r.dq≤15) with
 |false=>simp -implicitDefEqProofs only [A.l33, af, ak, ao, fs, beq_self_eq_true, ai, ah, Bool.false_eq_true, if_false, if_true, al, Nat.zero_add, aE, aD, q0, q1, Bool.and_false, Bool.false_and]
 |true=>
 cases q2:decide ((r.inc:Int)≥1) with
 |false=>simp -implicitDefEqProofs only [A.l33, A.l34, af, ak, ao, beq_self_eq_true, ai, if_true, al, Nat.zero_add, aE, aD, q0, q1, q2, Bool.and_true, Bool.and_false]
 |true=>
 simp -implicitDefEqProofs only [A.l33, A.l34, af, ak, ao, beq_self_eq_true, ai, if_true, al, Nat.zero_add, aE, aD, q0, q1, q2, Bool.and_true]
theorem bare_seg {h:aj} {b:Nat} {r:bK} (A:RLd h b r) (K:Value→aj→Out) :
 (
 ae (pu (aA (ptr b 0) 35) h) fun y18 h=>
 ae (aN y18 h) fun y19 h=>
 ae (pu (bin Tryz.prog .eql 25 y19 (.int .u64 0)) h) fun y20 h=>
 ae (some (y20,h)) fun y21 h=>
 ae (aq (aI y21==some true) (pu (aA (ptr b 0) 36) h) h) fun y22 h=>
 ae (aq (aI y21==some true) (aN y22 h) h) fun y23 h=>
 ae (aq (aI y21==some true) (pu (unA .not y23) h) h) fun y24 h=>
 ae (match y21 with | .bool t=>some (if t then y24 else (.bool false),h)|_=>none) fun y25 h=>
 ae (some (y25,h)) fun cV h=>
 ae (aq (aI cV==some true) (pu (aA (ptr b 0) 37) h) h) fun dn h=>
 ae (aq (aI cV==some true) (aN dn h) h) fun y28 h=>
 ae (aq (aI cV==some true) (pu (bin Tryz.prog .eql 3 y28 (.int .i64 0)) h) h) fun y29 h=>
 ae (match cV with | .bool t=>some (if t then y29 else (.bool false),h)|_=>none) fun y30 h=>
 ae (some (y30,h)) fun y31 h=>
 ae (aq (aI y31==some true) (pu (aA (ptr b 0) 38) h) h) fun y32 h=>
 ae (aq (aI y31==some true) (aN y32 h) h) fun y33 h=>
 ae (aq (aI y31==some true) (pu (bin Tryz.prog .eql 3 y33 (.int .i64 0)) h) h) fun y34 h=>
 ae (match y31 with | .bool t=>some (if t then y34 else (.bool false),h)|_=>none) fun y35 h=>
 ae (some (y35,h)) fun y4 h=>
 K y4 h)=K (.bool (bareB r)) h:=by
 unfold bareB
 cases q0:((r.num:Int)==0) with
 |false=>simp -implicitDefEqProofs only [A.l35, af, ak, ao, fs, ah, Bool.false_eq_true, if_false, al, Nat.zero_add, az, q0, Bool.false_and]
 |true=>
 cases q1:(!r.held) with
 |false=>simp -implicitDefEqProofs only [A.l35, A.fa, af, ak, ao, fs, beq_self_eq_true, ai, ah, Bool.false_eq_true, if_false, if_true, al, Nat.zero_add, av, az, q0, q1, Bool.and_false, Bool.false_and]
 |true=>
 cases q2:(r.k==0) with
 |false=>simp -implicitDefEqProofs only [A.l35, A.fa, A.l37, af, ak, ao, fs, beq_self_eq_true, ai, ah, Bool.false_eq_true, if_false, if_true, al, Nat.zero_add, av, az, q0, q1, q2, Bool.and_true, Bool.and_false, Bool.false_and]
 |true=>
 cases q3:(r.n==0) with
 |false=>simp -implicitDefEqProofs only [A.l35, A.fa, A.l37, A.l38, af, ak, ao, beq_self_eq_true, ai, if_true, al, Nat.zero_add, av, az, q0, q1, q2, q3, Bool.and_true, Bool.and_false]
 |true=>
 simp -implicitDefEqProofs only [A.l35, A.fa, A.l37, A.l38, af, ak, ao, beq_self_eq_true, ai, if_true, al, Nat.zero_add, av, az, q0, q1, q2, q3, Bool.and_true]
def recR (r:bK):Bool:=if (r.kind:Int)==1 then personB r&&bareB r&&decide (r.obj=z32) else if (r.kind:Int)==2 then bareB r&&(r.dq==0)&&((r.inc:Int)==0) else if (r.kind:Int)==3 then personB r&&decide ((r.num:Int)≥1)&&decide (1≤r.k)&&decide (r.k≤r.n)&&decide (r.n≤255) else false
theorem person_holder (r:bK):personB r=holderB r:=by
 unfold personB holderB
 congr 2
 exact decide_eq_decide.2 (by omega)
theorem bare_spec (r:bK):bareB r=true↔r.num=0∧r.held=false∧r.k=0∧r.n=0:=by
 unfold bareB
 simp only [Bool.and_eq_true,beq_iff_eq,Bool.not_eq_true']
 constructor
 ·rintro ⟨⟨⟨h1,h2⟩,h3⟩,h4⟩
  exact ⟨by omega,h2,h3,h4⟩
 ·rintro ⟨h1,h2,h3,h4⟩
  exact ⟨⟨⟨by omega,h2⟩,h3⟩,h4⟩
theorem recR_eq (r:bK):recR r=recB r:=by
 unfold recR recB pieceB
 rw [person_holder]
 split
 ·rw [Bool.eq_iff_iff]
  simp only [Bool.and_eq_true,decide_eq_true_eq,bare_spec]
  constructor
  ·rintro ⟨⟨h1,h2,h3,h4,h5⟩,h6⟩
   refine ⟨?_,h1⟩
   unfold bK.base bK.z
   exact bK.ext rfl h6 rfl rfl h2 h3 h4 h5
  ·rintro ⟨h1,h2⟩
   refine ⟨⟨h2,?_⟩,?_⟩
   ·rw [h1];exact ⟨rfl,rfl,rfl,rfl⟩
   ·rw [h1];rfl
 split
 ·rw [Bool.eq_iff_iff]
  simp only [Bool.and_eq_true,decide_eq_true_eq,bare_spec,beq_iff_eq]
  constructor
  ·rintro ⟨⟨⟨h2,h3,h4,h5⟩,h6⟩,h7⟩
   unfold bK.grave bK.z
   exact bK.ext rfl rfl h6 (by show r.inc=0;omega) h2 h3 h4 h5
  ·intro h1
   refine ⟨⟨?_,?_⟩,?_⟩
   ·rw [h1];exact ⟨rfl,rfl,rfl,rfl⟩
   ·rw [h1];rfl
   ·rw [h1];rfl
 ·rfl
theorem is62:bO Tryz.prog 62 Tryz.f62:=⟨by kernel_rfl,by kernel_rfl,by kernel_rfl,by kernel_rfl⟩
set_option maxRecDepth 100000 in
theorem r62 {h:aj} (hG:4≤h.n0) (hz:GZ h) {r:bK} (w:r.Wf) : ∃ h',CW 62 [.agg (recC r).toArray] h=some (.bool (recB r),h')∧Old h h':=by
 obtain ⟨h1,b1,o1,A⟩:=rec_box h w
 have z1:=(hz.bA o1).ld
 obtain ⟨q,hq,e28,_⟩:=eq28 (bP r.obj) (bP z32) (c9 w.obj) (c9 z32_ok)
 have hq:q=decide (r.obj=z32):=by
  by_cases e:r.obj=z32
  ·rw [decide_eq_true e,hq.2 (by rw [e])]
  ·rw [decide_eq_false e]
   cases q with
   |false=>rfl
   |true=>exact absurd (u8s_inj (hq.1 rfl)) e
 rw [hq] at e28
 refine ⟨h1,aF is62 hG rfl ((t62_eq _ _ _).trans ?_),o1⟩
 rw [←recR_eq]
 unfold t62
 rw [b1,af,af]
 refine (person_seg A _).trans ?_
 refine (bare_seg A _).trans ?_
 unfold recR
 cases k1:(r.kind:Int)==1 with
 |true=>
  rw [if_pos rfl]
  cases q0:personB r with
  |false=>simp -implicitDefEqProofs only [A.l0, k1, af, ak, ao, fs, ah, Bool.false_eq_true, if_false, al, Nat.zero_add, az, Bool.false_and]
  |true=>
  cases q1:bareB r with
  |false=>simp -implicitDefEqProofs only [A.l0, k1, af, ak, ao, fs, beq_self_eq_true, ai, ah, Bool.false_eq_true, if_false, if_true, al, Nat.zero_add, az, Bool.and_false, Bool.false_and]
  |true=>
  simp -implicitDefEqProofs only [A.l0, A.l1, k1, z1, e28, af, ak, ao, beq_self_eq_true, ai, if_true, al, Nat.zero_add, az, Bool.and_true, Bool.true_and]
 |false=>
 rw [if_neg (by decide)]
 cases k2:(r.kind:Int)==2 with
 |true=>
  rw [if_pos rfl]
  cases q0:bareB r with
  |false=>simp -implicitDefEqProofs only [A.l0, k1, k2, af, ak, ao, fs, ah, Bool.false_eq_true, if_false, al, Nat.zero_add, az, Bool.false_and]
  |true=>
  cases q1:(r.dq==0) with
  |false=>simp -implicitDefEqProofs only [A.l0, A.l33, k1, k2, af, ak, ao, fs, beq_self_eq_true, ai, ah, Bool.false_eq_true, if_false, if_true, al, Nat.zero_add, az, q1, Bool.and_false, Bool.false_and]
  |true=>
  simp -implicitDefEqProofs only [A.l0, A.l33, A.l34, k1, k2, af, ak, ao, beq_self_eq_true, ai, if_true, al, Nat.zero_add, az, q1, Bool.and_true, Bool.true_and]
 |false=>
 rw [if_neg (by decide)]
 cases k3:(r.kind:Int)==3 with
 |true=>
  rw [if_pos rfl]
  cases q0:personB r with
  |false=>simp -implicitDefEqProofs only [A.l0, k1, k2, k3, af, ak, ao, fs, ah, Bool.false_eq_true, if_false, al, Nat.zero_add, az, Bool.false_and]
  |true=>
  cases q1:decide ((r.num:Int)≥1) with
  |false=>simp -implicitDefEqProofs only [A.l0, A.l35, k1, k2, k3, af, ak, ao, fs, beq_self_eq_true, ai, ah, Bool.false_eq_true, if_false, if_true, al, Nat.zero_add, aE, az, q1, Bool.and_false, Bool.false_and]
  |true=>
  cases q2:decide (1≤r.k) with
  |false=>simp -implicitDefEqProofs only [A.l0, A.l35, A.l37, k1, k2, k3, af, ak, ao, fs, beq_self_eq_true, ai, ah, Bool.false_eq_true, if_false, if_true, al, Nat.zero_add, aE, aD, az, q1, q2, Bool.and_true, Bool.and_false, Bool.false_and]
  |true=>
  cases q3:decide (r.k≤r.n) with
  |false=>simp -implicitDefEqProofs only [A.l0, A.l35, A.l37, A.l38, k1, k2, k3, af, ak, ao, fs, beq_self_eq_true, ai, ah, Bool.false_eq_true, if_false, if_true, al, Nat.zero_add, aE, aD, az, q1, q2, q3, Bool.and_true, Bool.and_false, Bool.false_and]
  |true=>
  cases q4:decide (r.n≤255) with
  |false=>simp -implicitDefEqProofs only [A.l0, A.l35, A.l37, A.l38, k1, k2, k3, af, ak, ao, beq_self_eq_true, ai, if_true, al, Nat.zero_add, aE, aD, az, q1, q2, q3, q4, Bool.and_true, Bool.and_false]
  |true=>
  simp -implicitDefEqProofs only [A.l0, A.l35, A.l37, A.l38, k1, k2, k3, af, ak, ao, beq_self_eq_true, ai, if_true, al, Nat.zero_add, aE, aD, az, q1, q2, q3, q4, Bool.and_true]
 |false=>
 rw [if_neg (by decide)]
 simp -implicitDefEqProofs only [A.l0, k1, k2, k3, af, ak, ao, al, Nat.zero_add, az]
theorem is90:bO Tryz.prog 90 Tryz.f90:=⟨by kernel_rfl,by kernel_rfl,by kernel_rfl,by kernel_rfl⟩
theorem r90 {h:aj} (hG:4≤h.n0) {k:Nat} (hk:kindOk k=true):CW 90 [.int .u8 (k:Int)] h=some (.tuple #[.bool (decide (k≤3)),.bool (k==4||k==5),.bool (k==5),.bool (decide (6≤k)),.bool (k==8||k==10)],h):=by
 refine aF is90 hG rfl ((t90_eq _ _ _).trans ?_)
 unfold t90
 rcases kinds hk with rfl|rfl|rfl|rfl|rfl|rfl|rfl|rfl|rfl|rfl|rfl|rfl|rfl<;>kernel_rfl
end Go.Proofs.YtjghlcdidopcpaaGreatDoor

namespace Go.Proofs.YtjghlcdidopcpaaGreatDoor
open Go Go.Abs
attribute [local congr] aU
def bq3 (m q:aO):aO:=if m.kind≤3 then (if m.kind=3 then { q with seq:=m.seq,table:=m.table,target:=m.target } else { q with seq:=m.seq,table:=m.table,origin:=m.origin }) else q
def bs3 (m:aO) (s sl:cR):cR:=if m.kind≤3 then { sl with a:=s.a } else sl
def bq4 (m q:aO):aO:=if (m.kind==4||m.kind==5)=true then { q with low:=m.low,high:=m.high } else q
def bs4 (m:aO) (s sl:cR):cR:=if (m.kind==4||m.kind==5)=true then { sl with b:=s.b,c:=s.c } else sl
def bq5 (m q:aO):aO:=if (m.kind==5)=true then { q with cp:=m.cp,want:=m.want } else q
def bs5 (m:aO) (s sl:cR):cR:=if (m.kind==5)=true then { sl with d:=s.d } else sl
def bq6 (m q:aO):aO:=if m.kind=4 then { q with count:=m.count,root:=m.root } else q
def bs6 (m:aO) (s sl:cR):cR:=sl
def bq7 (m q:aO):aO:=if 6≤m.kind then { q with obj:=m.obj } else q
def bs7 (m:aO) (s sl:cR):cR:=sl
def bq8 (m q:aO):aO:=if (m.kind==8||m.kind==10)=true then { q with gk:=m.gk,gn:=m.gn,gt:=m.gt,gs:=m.gs,dk:=m.dk,pieces:=m.pieces,cN:=m.cN,data:=m.data } else q
def bs8 (m:aO) (s sl:cR):cR:=if (m.kind==8||m.kind==10)=true then { sl with e:=s.e,f:=s.f } else sl
def bq9 (m q:aO):aO:=if m.kind=11 then { q with code:=m.code } else q
def bs9 (m:aO) (s sl:cR):cR:=sl
def bareQ (m:aO):aO:=bq9 m (bq8 m (bq7 m (bq6 m (bq5 m (bq4 m (bq3 m { aO.z with kind:=m.kind,from_:=m.from_,to_:=m.to_ }))))))
def fo (m:aO) (s:cR):cR:=bs9 m s (bs8 m s (bs7 m s (bs6 m s (bs5 m s (bs4 m s (bs3 m s aZ))))))
theorem bareQ_eq {m:aO} (hk:kindOk m.kind=true):bareQ m=fullM m:=by
 obtain ⟨k,_,_,_,_,_,_,_,_,_,_,_,_,_,_,_,_,_,_,_,_,_,_⟩:=m
 rcases kinds hk with h|h|h|h|h|h|h|h|h|h|h|h|h<;>(have h:k=_:=h;subst h;rfl)
theorem bareS_has {h:aj} {s:cR} {m:aO} (hk:kindOk m.kind=true) (x:Has h s m):Has h (fo m s) (fullM m):=by
 refine ⟨?_,fullM_wf hk x.wf⟩
 have X:=x.sl
 clear x
 obtain ⟨k,_,_,_,_,_,_,_,_,_,_,_,_,_,_,_,_,_,_,_,_,_,_⟩:=m
 rcases kinds hk with h|h|h|h|h|h|h|h|h|h|h|h|h<;>(have h:k=_:=h;subst h)
 ·exact ⟨X.a,.nil _ _,.nil _ _,.nil _ _,.nil _ _,.nil _ _⟩
 ·exact ⟨X.a,.nil _ _,.nil _ _,.nil _ _,.nil _ _,.nil _ _⟩
 ·exact ⟨X.a,.nil _ _,.nil _ _,.nil _ _,.nil _ _,.nil _ _⟩
 ·exact ⟨.nil _ _,X.b,X.c,.nil _ _,.nil _ _,.nil _ _⟩
 ·exact ⟨.nil _ _,X.b,X.c,X.d,.nil _ _,.nil _ _⟩
 ·exact ⟨.nil _ _,.nil _ _,.nil _ _,.nil _ _,.nil _ _,.nil _ _⟩
 ·exact ⟨.nil _ _,.nil _ _,.nil _ _,.nil _ _,.nil _ _,.nil _ _⟩
 ·exact ⟨.nil _ _,.nil _ _,.nil _ _,.nil _ _,X.e,X.f⟩
 ·exact ⟨.nil _ _,.nil _ _,.nil _ _,.nil _ _,.nil _ _,.nil _ _⟩
 ·exact ⟨.nil _ _,.nil _ _,.nil _ _,.nil _ _,X.e,X.f⟩
 ·exact ⟨.nil _ _,.nil _ _,.nil _ _,.nil _ _,.nil _ _,.nil _ _⟩
 ·exact ⟨.nil _ _,.nil _ _,.nil _ _,.nil _ _,.nil _ _,.nil _ _⟩
 ·exact ⟨.nil _ _,.nil _ _,.nil _ _,.nil _ _,.nil _ _,.nil _ _⟩
theorem bareS_off {s:cR} {m:aO} {B:Nat→Prop} (hk:kindOk m.kind=true) (o:s.off B):(fo m s).off B:=by
 have key : ∀ v,v=s.a∨v=s.b∨v=s.c∨v=s.d∨v=s.e∨v=s.f∨v = .slice none 0 0 → ∀ b,slB v=some b → ¬B b:=fun v hv b hb=>by
  rcases hv with h|h|h|h|h|h|h
  ·exact o v (.inl h) b hb
  ·exact o v (.inr (.inl h)) b hb
  ·exact o v (.inr (.inr (.inl h))) b hb
  ·exact o v (.inr (.inr (.inr (.inl h)))) b hb
  ·exact o v (.inr (.inr (.inr (.inr (.inl h))))) b hb
  ·exact o v (.inr (.inr (.inr (.inr (.inr h))))) b hb
  ·rw [h] at hb;cases hb
 intro v hv
 refine key v ?_
 have ha:(fo m s).a=s.a∨(fo m s).a = .slice none 0 0:=by unfold fo bs3 bs4 bs5 bs6 bs7 bs8 bs9;repeat (first|exact .inl rfl|exact .inr rfl|split)
 have hb:(fo m s).b=s.b∨(fo m s).b = .slice none 0 0:=by unfold fo bs3 bs4 bs5 bs6 bs7 bs8 bs9;repeat (first|exact .inl rfl|exact .inr rfl|split)
 have hc:(fo m s).c=s.c∨(fo m s).c = .slice none 0 0:=by unfold fo bs3 bs4 bs5 bs6 bs7 bs8 bs9;repeat (first|exact .inl rfl|exact .inr rfl|split)
 have hd:(fo m s).d=s.d∨(fo m s).d = .slice none 0 0:=by unfold fo bs3 bs4 bs5 bs6 bs7 bs8 bs9;repeat (first|exact .inl rfl|exact .inr rfl|split)
 have he:(fo m s).e=s.e∨(fo m s).e = .slice none 0 0:=by unfold fo bs3 bs4 bs5 bs6 bs7 bs8 bs9;repeat (first|exact .inl rfl|exact .inr rfl|split)
 have hf:(fo m s).f=s.f∨(fo m s).f = .slice none 0 0:=by unfold fo bs3 bs4 bs5 bs6 bs7 bs8 bs9;repeat (first|exact .inl rfl|exact .inr rfl|split)
 rcases hv with rfl|rfl|rfl|rfl|rfl|rfl
 ·rcases ha with h|h<;>simp [h]
 ·rcases hb with h|h<;>simp [h]
 ·rcases hc with h|h<;>simp [h]
 ·rcases hd with h|h<;>simp [h]
 ·rcases he with h|h<;>simp [h]
 ·rcases hf with h|h<;>simp [h]
structure E60 (h0:aj) (k:Nat) (x:Nat→Value):Prop where
 x1:x 1=ptr h0.next 0
 x2:x 2=ptr (h0.next+1) 0
 x3:x 3=ptr (h0.next+2) 0
 x4:x 4 = .bool (decide (k≤3))
 x5:x 5 = .bool (k==4||k==5)
 x6:x 6 = .bool (k==5)
 x7:x 7 = .bool (decide (6≤k))
 x8:x 8 = .bool (k==8||k==10)
structure B60 (h0:aj) (m:aO) (s:cR) (q:aO) (sl:cR) (x:Nat→Value) (g:aj):Prop where
 e:E60 h0 m.kind x
 gb:g.get h0.next=some (m.d.cells s)
 gM:g.get (h0.next+2)=some (q.d.cells sl)
 gR:g.get (h0.next+1)=some Zl
 hm:Has g s m
 qw:q.Wf
 bA:Old h0 g
 so:s.off (fun b=>h0.next≤b)
section
variable {h0:aj} {m q:aO} {s sl:cR} {x:Nat→Value} {g:aj}
theorem B60.env (B:B60 h0 m s q sl x g) {x':Nat→Value} (e:x' 1=x 1∧x' 2=x 2∧x' 3=x 3∧x' 4=x 4∧x' 5=x 5∧x' 6=x 6∧x' 7=x 7∧x' 8=x 8):B60 h0 m s q sl x' g:=by
 obtain ⟨e1,e2,e3,e4,e5,e6,e7,e8⟩:=e
 exact ⟨⟨e1.trans B.e.x1,e2.trans B.e.x2,e3.trans B.e.x3,e4.trans B.e.x4,e5.trans B.e.x5,e6.trans B.e.x6,e7.trans B.e.x7,e8.trans B.e.x8⟩,B.gb,B.gM,B.gR,B.hm,B.qw,B.bA,B.so⟩
theorem B60.wr (B:B60 h0 m s q sl x g) {g':aj} {q':aO} {sl':cR} (k:Kept g g' (· = h0.next+2)) (gM:g'.get (h0.next+2)=some (q'.d.cells sl')) (qw:q'.Wf):B60 h0 m s q' sl' x g':=
 ⟨B.e,k.dj B.gb (by omega),gM,k.dj B.gR (by omega),B.hm.bF k (fun v hv b hb e=>B.so v hv b hb (by omega)),qw,B.bA.cE k (fun d hd e=>by omega),B.so⟩
theorem B60.n0 (B:B60 h0 m s q sl x g):g.n0≤h0.next+2:=by rw [B.bA.n0];have:=h0.aK;omega
theorem B60.len (B:B60 h0 m s q sl x g):(q.d.cells sl).length=116:=fS (aO.ok B.qw)
theorem B60.put (B:B60 h0 m s q sl x g) {o:Nat} {v:Value} {q':aO} {sl':cR} (ho:o<116) (hc:v.cells = #[v]) (hv:v.oneCell'=true) (e:(q.d.cells sl).set o v=q'.d.cells sl') (qw:q'.Wf) :
  ∃ g',bw 1 (ptr (h0.next+2) o) v g=some (undef,g')∧B60 h0 m s q' sl' x g'∧Kept g g' (· = h0.next+2):=by
 obtain ⟨g',e1,k,g1,_,_⟩:=stored (o:=o) (v:=v) B.gM B.n0 (by rw [B.len];exact ho) hc hv
 rw [e] at g1
 exact ⟨g',e1,B.wr k g1 qw,k⟩
theorem B60.putN (B:B60 h0 m s q sl x g) {o n:Nat} {w:dB} {q':aO} {sl':cR} (ho:o+n≤116) (hc:w.length=n) (hv:aQ w=true) (e:bI (q.d.cells sl) o w=q'.d.cells sl') (qw:q'.Wf) :
  ∃ g',bw n (ptr (h0.next+2) o) (.agg w.toArray) g=some (undef,g')∧B60 h0 m s q' sl' x g'∧Kept g g' (· = h0.next+2):=by
 obtain ⟨g',e1,k,g1,_,_⟩:=stored_mid (o:=o) (n:=n) B.gM B.n0 (by rw [B.len];exact ho) hc hv
 rw [e] at g1
 exact ⟨g',e1,B.wr k g1 qw,k⟩
theorem B60.ld (B:B60 h0 m s q sl x g):MLd g h0.next s m:=m_ld B.hm B.gb
theorem l113_two {h h1:aj} {b:Nat} (y:Has h1 s m) (g:h.get b=some (m.d.cells s)):bD 2 (ptr b 113) h=some (.agg #[.int .i64 m.cN,s.f],h):=by
 have ok:=aO.ok y.wf
 have c:=ba y.sl.f
 refine gj g (A:=m.d.front s++(m.d.root++([s.d,.bool m.d.want]++(m.d.obj++m.d.eM s)))) (B := [.int .i64 m.cN,s.f]) (C := [.int .i64 m.code]) ?_ ?_ rfl ?_
 ·unfold bV.cells
  simp only [List.append_assoc]
  rfl
 ·simp only [List.length_append,man_len ok,ok.root.1,ok.obj.1]
  rfl
 ·exact dK (a := [.int .i64 m.cN]) rfl (noH_one c.1)
include g in
theorem s60_3 (B:B60 h0 m s q sl x g) : ∃ x' g',k60s3 CW (aJ 82 x) g=k60s4 CW (aJ 82 x') g'∧B60 h0 m s (bq3 m q) (bs3 m s sl) x' g':=by
 rw [t60s3_eq]
 unfold t60s3 bq3 bs3
 by_cases c:m.kind≤3
 ·rw [if_pos c]
  rw [if_pos c]
  have A:=B.ld
  have e4:=B.e.x4
  rw [decide_eq_true c] at e4
  obtain ⟨g1,w1,B1,k1⟩:=B.put (o:=3) (v := .int .u64 (m.seq:Int)) (q':={ q with seq:=m.seq }) (sl':=sl) (by decide) rfl rfl rfl { B.qw with seq:=B.hm.wf.seq }
  have A1:=B1.ld
  have ca:=ba B.hm.sl.a
  obtain ⟨g2,w2,B2,k2⟩:=B1.put (o:=6) (v:=s.a) (q':={ q with seq:=m.seq,table:=m.table }) (sl':={ sl with a:=s.a }) (by decide) ca.2.2 ca.2.1 rfl { B1.qw with table:=B.hm.wf.table }
  have A2:=B2.ld
  have ck:=fM A1.l6 B.hm.sl.a.fb
  have q3:bin Tryz.prog .eql 24 (.int .u8 (m.kind:Int)) (.int .u8 3)=some (.bool ((m.kind:Int)==3)):=az ..
  by_cases d:m.kind=3
  ·rw [if_pos d]
   rw [show ((m.kind:Int)==3)=true by rw [d];rfl] at q3
   obtain ⟨g3,w3,B3,k3⟩:=B2.put (o:=5) (v := .int .i64 m.target) (q':={ q with seq:=m.seq,table:=m.table,target:=m.target }) (sl':={ sl with a:=s.a }) (by decide) rfl rfl rfl { B2.qw with target:=B.hm.wf.target }
   simp -implicitDefEqProofs only [e4, B.e.x1, B.e.x3, A.l3, A.l6, w1, w2, ck, A2.l0, q3, A2.l5, w3, af, ak, Bool.and_self, al, Nat.zero_add]
   exact ⟨_,g3,rfl,B3.env ⟨rfl,rfl,rfl,rfl,rfl,rfl,rfl,rfl⟩⟩
  ·rw [if_neg d]
   rw [show ((m.kind:Int)==3)=false by simp;omega] at q3
   obtain ⟨g3,w3,B3,k3⟩:=B2.put (o:=4) (v := .int .i64 m.origin) (q':={ q with seq:=m.seq,table:=m.table,origin:=m.origin }) (sl':={ sl with a:=s.a }) (by decide) rfl rfl rfl { B2.qw with origin:=B.hm.wf.origin }
   simp -implicitDefEqProofs only [e4, B.e.x1, B.e.x3, A.l3, A.l6, w1, w2, ck, A2.l0, q3, A2.l4, w3, af, ak, Bool.and_self, al, Nat.zero_add]
   exact ⟨_,g3,rfl,B3.env ⟨rfl,rfl,rfl,rfl,rfl,rfl,rfl,rfl⟩⟩
 ·rw [if_neg c]
  rw [if_neg c]
  have e4:=B.e.x4
  rw [decide_eq_false c] at e4
  simp -implicitDefEqProofs only [e4, af]
  exact ⟨_,g,rfl,B.env ⟨rfl,rfl,rfl,rfl,rfl,rfl,rfl,rfl⟩⟩
theorem s60_4 (B:B60 h0 m s q sl x g) : ∃ x' g',k60s4 CW (aJ 82 x) g=k60s5 CW (aJ 82 x') g'∧B60 h0 m s (bq4 m q) (bs4 m s sl) x' g':=by
 rw [t60s4_eq]
 unfold t60s4 bq4 bs4
 by_cases c:(m.kind==4||m.kind==5)=true
 ·rw [if_pos c]
  rw [if_pos c]
  have A:=B.ld
  have e4:=B.e.x5
  rw [c] at e4
  have ca:=ba B.hm.sl.b
  have cb:=ba B.hm.sl.c
  obtain ⟨g1,w1,B1,k1⟩:=B.put (o:=7) (v:=s.b) (q':={ q with low:=m.low }) (sl':={ sl with b:=s.b }) (by decide) ca.2.2 ca.2.1 rfl { B.qw with low:=B.hm.wf.low }
  have A1:=B1.ld
  obtain ⟨g2,w2,B2,k2⟩:=B1.put (o:=8) (v:=s.c) (q':={ q with low:=m.low,high:=m.high }) (sl':={ sl with b:=s.b,c:=s.c }) (by decide) cb.2.2 cb.2.1 rfl { B1.qw with high:=B.hm.wf.high }
  have ck:=fM A1.l8 B.hm.sl.c.fb
  simp -implicitDefEqProofs only [e4, B.e.x1, B.e.x3, A.l7, A.l8, w1, w2, ck, af, ak, Bool.and_self, al, Nat.zero_add]
  exact ⟨_,g2,rfl,B2.env ⟨rfl,rfl,rfl,rfl,rfl,rfl,rfl,rfl⟩⟩
 ·rw [if_neg c]
  rw [if_neg c]
  have e4:=B.e.x5
  rw [Bool.eq_false_iff.mpr c] at e4
  simp -implicitDefEqProofs only [e4, af]
  exact ⟨_,g,rfl,B.env ⟨rfl,rfl,rfl,rfl,rfl,rfl,rfl,rfl⟩⟩
theorem s60_5 (B:B60 h0 m s q sl x g) : ∃ x' g',k60s5 CW (aJ 82 x) g=k60s6 CW (aJ 82 x') g'∧B60 h0 m s (bq5 m q) (bs5 m s sl) x' g':=by
 rw [t60s5_eq]
 unfold t60s5 bq5 bs5
 by_cases c:(m.kind==5)=true
 ·rw [if_pos c]
  rw [if_pos c]
  have A:=B.ld
  have e4:=B.e.x6
  rw [c] at e4
  have ca:=ba B.hm.sl.d
  obtain ⟨g1,w1,B1,k1⟩:=B.put (o:=42) (v:=s.d) (q':={ q with cp:=m.cp }) (sl':={ sl with d:=s.d }) (by decide) ca.2.2 ca.2.1 (set42 (aO.ok B.qw) _) { B.qw with cp:=B.hm.wf.cp }
  have A1:=B1.ld
  obtain ⟨g2,w2,B2,k2⟩:=B1.put (o:=43) (v := .bool m.want) (q':={ q with cp:=m.cp,want:=m.want }) (sl':={ sl with d:=s.d }) (by decide) rfl rfl (c43 B1.qw _) { B1.qw with }
  have ck:=fM A1.cw (show fb (.bool m.want) (.bool m.want)=true by cases m.want<;>rfl)
  simp -implicitDefEqProofs only [e4, B.e.x1, B.e.x3, A.bW, A.cw, w1, w2, ck, af, ak, Bool.and_self, al, Nat.zero_add]
  exact ⟨_,g2,rfl,B2.env ⟨rfl,rfl,rfl,rfl,rfl,rfl,rfl,rfl⟩⟩
 ·rw [if_neg c]
  rw [if_neg c]
  have e4:=B.e.x6
  rw [Bool.eq_false_iff.mpr c] at e4
  simp -implicitDefEqProofs only [e4, af]
  exact ⟨_,g,rfl,B.env ⟨rfl,rfl,rfl,rfl,rfl,rfl,rfl,rfl⟩⟩
theorem s60_6 (B:B60 h0 m s q sl x g) : ∃ x' g',k60s6 CW (aJ 82 x) g=k60s7 CW (aJ 82 x') g'∧B60 h0 m s (bq6 m q) (bs6 m s sl) x' g':=by
 rw [t60s6_eq]
 unfold t60s6 bq6 bs6
 have A:=B.ld
 have q3:bin Tryz.prog .eql 24 (.int .u8 (m.kind:Int)) (.int .u8 4)=some (.bool ((m.kind:Int)==4)):=az ..
 by_cases c:m.kind=4
 ·rw [if_pos c]
  rw [show ((m.kind:Int)==4)=true by rw [c];rfl] at q3
  obtain ⟨g1,w1,B1,k1⟩:=B.put (o:=9) (v := .int .i64 m.count) (q':={ q with count:=m.count }) (sl':=sl) (by decide) rfl rfl rfl { B.qw with count:=B.hm.wf.count }
  have A1:=B1.ld
  obtain ⟨g2,w2,B2,k2⟩:=B1.putN (o:=10) (n:=32) (w:=bP m.root) (q':={ q with count:=m.count,root:=m.root }) (sl':=sl) (by decide) (bX B.hm.wf.root) (cJ _).2 (c10 B1.qw (B.hm.wf.root).1) { B1.qw with root:=B.hm.wf.root }
  have ck:=fM A1.cj (u8s_veq m.root)
  simp -implicitDefEqProofs only [B.e.x1, B.e.x3, A.l0, q3, A.l9, A.cj, w1, w2, ck, af, ak, Bool.and_self, al, Nat.zero_add]
  exact ⟨_,g2,rfl,B2.env ⟨rfl,rfl,rfl,rfl,rfl,rfl,rfl,rfl⟩⟩
 ·rw [if_neg c]
  rw [show ((m.kind:Int)==4)=false by simp;omega] at q3
  simp -implicitDefEqProofs only [B.e.x1, A.l0, q3, af, ak, al, Nat.zero_add]
  exact ⟨_,g,rfl,B.env ⟨rfl,rfl,rfl,rfl,rfl,rfl,rfl,rfl⟩⟩
theorem s60_7 (B:B60 h0 m s q sl x g) : ∃ x' g',k60s7 CW (aJ 82 x) g=k60s8 CW (aJ 82 x') g'∧B60 h0 m s (bq7 m q) (bs7 m s sl) x' g':=by
 rw [t60s7_eq]
 unfold t60s7 bq7 bs7
 by_cases c:6≤m.kind
 ·rw [if_pos c]
  have A:=B.ld
  have e4:=B.e.x7
  rw [decide_eq_true c] at e4
  obtain ⟨g2,w2,B2,k2⟩:=B.putN (o:=44) (n:=32) (w:=bP m.obj) (q':={ q with obj:=m.obj }) (sl':=sl) (by decide) (bX B.hm.wf.obj) (cJ _).2 (c44 B.qw (B.hm.wf.obj).1) { B.qw with obj:=B.hm.wf.obj }
  simp -implicitDefEqProofs only [e4, B.e.x1, B.e.x3, A.cu, w2, af, ak, al, Nat.zero_add]
  exact ⟨_,g2,rfl,B2.env ⟨rfl,rfl,rfl,rfl,rfl,rfl,rfl,rfl⟩⟩
 ·rw [if_neg c]
  have e4:=B.e.x7
  rw [decide_eq_false c] at e4
  simp -implicitDefEqProofs only [e4, af]
  exact ⟨_,g,rfl,B.env ⟨rfl,rfl,rfl,rfl,rfl,rfl,rfl,rfl⟩⟩
theorem s60_8 (B:B60 h0 m s q sl x g) : ∃ x' g',k60s8 CW (aJ 82 x) g=k60s9 CW (aJ 82 x') g'∧B60 h0 m s (bq8 m q) (bs8 m s sl) x' g':=by
 rw [t60s8_eq]
 unfold t60s8 bq8 bs8
 by_cases c:(m.kind==8||m.kind==10)=true
 ·rw [if_pos c]
  rw [if_pos c]
  have A:=B.ld
  have e4:=B.e.x8
  rw [c] at e4
  have cm:=man_ok B.hm.sl (aO.ok B.hm.wf)
  have cf:=ba B.hm.sl.f
  obtain ⟨g1,w1,B1,k1⟩:=B.putN (o:=76) (n:=37) (w:=m.d.eM s) (q':={ q with gk:=m.gk,gn:=m.gn,gt:=m.gt,gs:=m.gs,dk:=m.dk,pieces:=m.pieces }) (sl':={ sl with e:=s.e }) (by decide) cm.2.2 cm.2.1 (c76 B.qw (x:=m.man') (v:=s.e) (B.hm.wf.dk).1) { B.qw with gk:=B.hm.wf.gk,gn:=B.hm.wf.gn,gt:=B.hm.wf.gt,gs:=B.hm.wf.gs,dk:=B.hm.wf.dk,pieces:=B.hm.wf.pieces }
  have A1:=B1.ld
  have p0:=l113_two B.hm B.gb
  have p1:=l113_two B1.hm B1.gb
  obtain ⟨g2,w2,B2,k2⟩:=B1.putN (o:=113) (n:=2) (w := [.int .i64 m.cN,s.f]) (q':={ q with gk:=m.gk,gn:=m.gn,gt:=m.gt,gs:=m.gs,dk:=m.dk,pieces:=m.pieces,cN:=m.cN,data:=m.data }) (sl':={ sl with e:=s.e,f:=s.f }) (by decide) rfl
   (dO (a := [.int .i64 m.cN]) rfl (by unfold aQ;simp [cf.2.1])) (by
    rw [splice_two _ _ _ _ (by rw [B1.len];decide),c113 B1.qw]
    exact set114 (aO.ok (m:={ q with gk:=m.gk,gn:=m.gn,gt:=m.gt,gs:=m.gs,dk:=m.dk,pieces:=m.pieces,cN:=m.cN }) { B1.qw with cN:=B.hm.wf.cN }) _) { B1.qw with cN:=B.hm.wf.cN,data:=B.hm.wf.data }
  have vq:fb (.agg #[.int .i64 m.cN,s.f]) (.agg #[.int .i64 m.cN,s.f])=true:=by
   have:=B.hm.sl.f.fb
   simp [fb,veqL,this]
  have ck:=fM p1 vq
  simp -implicitDefEqProofs only [e4, B.e.x1, B.e.x3, A.cg, p0, w1, w2, ck, af, ak, Bool.and_self, al, Nat.zero_add]
  exact ⟨_,g2,rfl,B2.env ⟨rfl,rfl,rfl,rfl,rfl,rfl,rfl,rfl⟩⟩
 ·rw [if_neg c]
  rw [if_neg c]
  have e4:=B.e.x8
  rw [Bool.eq_false_iff.mpr c] at e4
  simp -implicitDefEqProofs only [e4, af]
  exact ⟨_,g,rfl,B.env ⟨rfl,rfl,rfl,rfl,rfl,rfl,rfl,rfl⟩⟩
theorem s60_9 (B:B60 h0 m s q sl x g) : ∃ x' g',k60s9 CW (aJ 82 x) g=k60s10 CW (aJ 82 x') g'∧B60 h0 m s (bq9 m q) (bs9 m s sl) x' g':=by
 rw [t60s9_eq]
 unfold t60s9 bq9 bs9
 have A:=B.ld
 have q3:bin Tryz.prog .eql 24 (.int .u8 (m.kind:Int)) (.int .u8 11)=some (.bool ((m.kind:Int)==11)):=az ..
 by_cases c:m.kind=11
 ·rw [if_pos c]
  rw [show ((m.kind:Int)==11)=true by rw [c];rfl] at q3
  obtain ⟨g1,w1,B1,k1⟩:=B.put (o:=115) (v := .int .i64 m.code) (q':={ q with code:=m.code }) (sl':=sl) (by decide) rfl rfl (c115 B.qw _) { B.qw with code:=B.hm.wf.code }
  simp -implicitDefEqProofs only [B.e.x1, B.e.x3, A.l0, q3, A.aY, w1, af, ak, al, Nat.zero_add]
  exact ⟨_,g1,rfl,B1.env ⟨rfl,rfl,rfl,rfl,rfl,rfl,rfl,rfl⟩⟩
 ·rw [if_neg c]
  rw [show ((m.kind:Int)==11)=false by simp;omega] at q3
  simp -implicitDefEqProofs only [B.e.x1, A.l0, q3, af, ak, al, Nat.zero_add]
  exact ⟨_,g,rfl,B.env ⟨rfl,rfl,rfl,rfl,rfl,rfl,rfl,rfl⟩⟩
end
theorem results60:Tryz.f60.results.toList = [.cell 2 37]:=by kernel_rfl
set_option maxRecDepth 100000 in
theorem bld_head (m:aO):bU Zl [(0,1,.int .u8 (m.kind:Int)),(1,1,.int .i64 m.from_),(2,1,.int .i64 m.to_)]=some (mv { aO.z with kind:=m.kind,from_:=m.from_,to_:=m.to_ } aZ):=rfl
theorem is60:bO Tryz.prog 60 Tryz.f60:=⟨by kernel_rfl,by kernel_rfl,by kernel_rfl,by kernel_rfl⟩
set_option maxRecDepth 100000 in
theorem r60 {h:aj} {s:cR} {m:aO} (hG:4≤h.n0) (x:Has h s m) (hk:kindOk m.kind=true) : ∃ s' h',CW 60 [mv m s] h=some (mv (fullM m) s',h')∧Has h' s' (fullM m)∧Old h h':=by
 have key : ∃ s' h',k60s0 CW (aJ 82 (bs [mv m s])) h=some (mv (fullM m) s',h')∧Has h' s' (fullM m)∧Old h h':=by
  obtain ⟨h1,b1,o1,x1,A1,n1,-⟩:=m_box x
  obtain ⟨h2,z2,o2,g2,n2⟩:=fresh Zl h1
  have z3:=newZ h2
  have x2:=x1.bA o2
  have A2:=m_ld x2 (Old.get o2 A1.g)
  have zw:({ aO.z with kind:=m.kind,from_:=m.from_,to_:=m.to_ }:aO).Wf:={ aO.fZ with kind:=x.wf.kind,from_:=x.wf.from_,to_:=x.wf.to_ }
  have zh:Has h2 aZ { aO.z with kind:=m.kind,from_:=m.from_,to_:=m.to_ }:=⟨⟨.nil _ _,.nil _ _,.nil _ _,.nil _ _,.nil _ _,.nil _ _⟩,zw⟩
  obtain ⟨h3,e3,o3,g3,n3⟩:=var_m zh
  have bh:=bld_head m
  have O3:=o1.trans (o2.trans o3)
  have A3:=m_ld (x2.bA o3) (Old.get (o2.trans o3) A1.g)
  have e4:=r90 (h:=h3) (by rw [O3.n0];exact hG) hk
  have w1:h1.next=h.next+1:=n1
  have w2:h2.next=h.next+2:=by omega
  rw [w1] at z2 g2
  rw [w2] at z3 e3 g3
  have exm:aG (.tuple #[.bool (decide (m.kind≤3)),.bool (m.kind==4||m.kind==5),.bool (m.kind==5),.bool (decide (6≤m.kind)),.bool (m.kind==8||m.kind==10)]) 0=some (.bool (decide (m.kind≤3)))∧aG (.tuple #[.bool (decide (m.kind≤3)),.bool (m.kind==4||m.kind==5),.bool (m.kind==5),.bool (decide (6≤m.kind)),.bool (m.kind==8||m.kind==10)]) 1=some (.bool (m.kind==4||m.kind==5))∧aG (.tuple #[.bool (decide (m.kind≤3)),.bool (m.kind==4||m.kind==5),.bool (m.kind==5),.bool (decide (6≤m.kind)),.bool (m.kind==8||m.kind==10)]) 2=some (.bool (m.kind==5))∧aG (.tuple #[.bool (decide (m.kind≤3)),.bool (m.kind==4||m.kind==5),.bool (m.kind==5),.bool (decide (6≤m.kind)),.bool (m.kind==8||m.kind==10)]) 3=some (.bool (decide (6≤m.kind)))∧aG (.tuple #[.bool (decide (m.kind≤3)),.bool (m.kind==4||m.kind==5),.bool (m.kind==5),.bool (decide (6≤m.kind)),.bool (m.kind==8||m.kind==10)]) 4=some (.bool (m.kind==8||m.kind==10)):=⟨rfl,rfl,rfl,rfl,rfl⟩
  obtain ⟨x0,x1',x2',x3',x4'⟩:=exm
  have st2 : ∀ y,y 1=ptr h.next 0→y 2=ptr (h.next+1) 0→y 3=ptr (h.next+2) 0 → ∃ y',k60s2 CW (aJ 82 y) h3=k60s3 CW (aJ 82 y') h3∧E60 h m.kind y':=by
   intro y y1 y2 y3
   rw [t60s2_eq]
   unfold t60s2
   simp -implicitDefEqProofs only [y1, A3.l0, e4, x0, x1', x2', x3', x4', af, ak, al, Nat.zero_add]
   refine ⟨_,rfl,?_⟩
   exact ⟨y1,y2,y3,rfl,rfl,rfl,rfl,rfl⟩
  have st : ∃ y,k60s0 CW (aJ 82 (bs [mv m s])) h=k60s3 CW (aJ 82 y) h3∧E60 h m.kind y:=by
   rw [t60s0_eq]
   unfold t60s0
   rw [show bs [mv m s] 0=mv m s from rfl]
   simp -implicitDefEqProofs only [b1, z2, af]
   rw [t60s1_eq]
   unfold t60s1
   rw [show up (bs [mv m s]) [(1,ptr h.next 0),(2,ptr (h.next+1) 0)] 1=ptr h.next 0 from rfl]
   simp -implicitDefEqProofs only [A2.l0, A2.l1, A2.l2, bh, z3, e3, af, ak, al, Nat.zero_add]
   exact st2 _ rfl rfl rfl
  obtain ⟨y3,e5,E⟩:=st
  have B3:B60 h m s { aO.z with kind:=m.kind,from_:=m.from_,to_:=m.to_ } aZ y3 h3:=⟨E,Old.get (o2.trans o3) A1.g,g3,Old.get o3 g2,x2.bA o3,zw,O3,x.sl.lt (Nat.le_refl _)⟩
  obtain ⟨y4,g4,e6,B4⟩:=s60_3 B3
  obtain ⟨y5,g5,e7,B5⟩:=s60_4 B4
  obtain ⟨y6,g6,e8,B6⟩:=s60_5 B5
  obtain ⟨y7,g7,e9,B7⟩:=s60_6 B6
  obtain ⟨y8,g8,e10,B8⟩:=s60_7 B7
  obtain ⟨y9,g9,e11,B9⟩:=s60_8 B8
  obtain ⟨y10,g10,e12,B10⟩:=s60_9 B9
  rw [e5,e6,e7,e8,e9,e10,e11,e12]
  have B:B60 h m s (fullM m) (fo m s) y10 g10:=by
   rw [←bareQ_eq hk]
   exact B10
  have X:=bareS_has hk B.hm
  have lM:=(m_ld X B.gM).all
  obtain ⟨g11,f1,f2,f3,f4⟩:=msg_end (b:=h.next+1) B.bA (by omega) B.gR rfl X (fun v hv b hb e=>bareS_off hk B.so v hv b hb (by omega))
  rw [t60s10_eq]
  unfold t60s10
  simp -implicitDefEqProofs only [B.e.x3, B.e.x2, lM, f1, af]
  rw [←B.e.x2] at f2
  exact ⟨fo m s,g11,eP results60 fq fp (show 2<82 by decide) (up y10 [_]) f2,f4,f3⟩
 obtain ⟨s',h',e,r⟩:=key
 exact ⟨s',h',aF is60 hG rfl ((t60_eq _ _ _).trans e),r⟩
end Go.Proofs.YtjghlcdidopcpaaGreatDoor

namespace Go.Proofs.YtjghlcdidopcpaaGreatDoor
open Go Go.Abs
attribute [local congr] aU
theorem bu:(aI undef==some true)=false:=rfl
theorem bu2:(aI undef==some false)=false:=rfl
def v1B (m:aO):Bool:=if m.kind≤3 then gw m.origin&&gw m.target&&tableB m.table else true
def v2B (m:aO):Bool:=decide (m.low.length≤34)&&decide (m.high.length≤34)&&decide (0≤m.count)&&decide (m.count≤1048576)&&decide (m.cp.length≤64)&&decide (0≤m.code)&&decide (m.code≤999)
def v3B (m:aO):Bool := !(m.cp.any fun r => !recB r)
def v4B (m:aO):Bool:=if (m.kind==8||m.kind==10)=true then !manBad m&&decide (m.cN≥0)&&decide (m.cN<m.gt)&&decide (m.data.length≤8192) else true
structure V25 (b:Nat) (s:cR) (m:aO) (x:Nat→Value) (g:aj):Prop where
 hG:4≤g.n0
 hz:GZ g
 x1:x 1=ptr b 0
 gb:g.get b=some (m.d.cells s)
 hm:Has g s m
section
variable {b:Nat} {s:cR} {m:aO} {x:Nat→Value} {g:aj}
theorem V25.go (V:V25 b s m x g) {x':Nat→Value} {g':aj} (e:x' 1=x 1) (o:Old g g'):V25 b s m x' g':=⟨by rw [o.n0];exact V.hG,V.hz.bA o,e.trans V.x1,Old.get o V.gb,V.hm.bA o⟩
theorem V25.ld (V:V25 b s m x g):MLd g b s m:=m_ld V.hm V.gb
theorem ld78 {h h1:aj} (y:Has h1 s m) (g:h.get b=some (m.d.cells s)):aN (ptr b 78) h=some (.int .i64 m.gt,h):=
 aV g (dy (A:=m.d.front s) 68 rfl (dy (A:=bP m.root) 36 (by rw [bX y.wf.root]) (dy (A := [s.d,.bool m.want]) 34 rfl (dy (A:=bP m.obj) 2 (by rw [bX y.wf.obj]) rfl)))) rfl
theorem s25_6 (x:Nat→Value) (g:aj):k25s6 CW (aJ 142 x) g=some (.bool true,g):=by
 rw [t25s6_eq]
 rfl
theorem s25_5 (V:V25 b s m x g) : ∃ h',k25s5 CW (aJ 142 x) g=some (.bool (v4B m),h')∧Old g h':=by
 have A:=V.ld
 have ln:=V.hm.len
 rw [t25s5_eq]
 unfold t25s5 v4B
 have q8:bin Tryz.prog .eql 24 (.int .u8 (m.kind:Int)) (.int .u8 8)=some (.bool ((m.kind:Int)==8)):=az ..
 have q10:bin Tryz.prog .eql 24 (.int .u8 (m.kind:Int)) (.int .u8 10)=some (.bool ((m.kind:Int)==10)):=az ..
 have i8:((m.kind:Int)==8)=(m.kind==8):=by rw [Bool.eq_iff_iff];simp only [beq_iff_eq];omega
 have i10:((m.kind:Int)==10)=(m.kind==10):=by rw [Bool.eq_iff_iff];simp only [beq_iff_eq];omega
 rw [i8] at q8
 rw [i10] at q10
 have lq:bin Tryz.prog .leq 3 (aH m.data.length) (.int .i64 8192)=some (.bool (decide (m.data.length≤8192))):=by
  unfold aH
  rw [aD]
  congr 2
  exact decide_eq_decide.2 (by omega)
 obtain ⟨h1,e1,o1⟩:=r63 V.hG V.hm
 have A1:=(V.go (x':=x) rfl o1).ld
 have l78:=ld78 V.hm (Old.get o1 V.gb)
 have ln1:=ln.2.2.2.2.2
 have fin : ∀ c:(m.kind==8||m.kind==10)=true,∃ h',(ae (pu (aA (x 1) 0) g) fun y109 h=>ae (some (undef,h)) fun _ h=>some (undef,h))=(ae (pu (aA (x 1) 0) g) fun y109 h=>ae (some (undef,h)) fun _ h=>some (undef,h))∧Old g h':=fun _=>⟨g,rfl,Kept.refl _ _⟩
 clear fin
 cases c8:m.kind==8 with
 |true=>
  rw [Bool.true_or,if_pos rfl]
  cases p0:manBad m with
  |true=>
   exact ⟨h1,by simp -implicitDefEqProofs only [V.x1, A.l0, q8, c8, A.cg, e1, af, ak, ao, fs, sf, ah, Bool.false_eq_true, if_false, if_true, al, Nat.zero_add, Bool.not_true, p0, Bool.false_and, Bool.not_true],o1⟩
  |false=>
  cases p1:decide (m.cN≥0) with
  |false=>
  exact ⟨h1,by simp -implicitDefEqProofs only [V.x1, A.l0, q8, c8, A.cg, e1, p0, A1.aW, af, ak, ao, fs, sf, beq_self_eq_true, ai, ah, Bool.false_eq_true, if_false, if_true, al, Nat.zero_add, Nat.reduceAdd, Bool.not_false, aE, p1, Bool.and_false, Bool.false_and, Bool.not_false],o1⟩
  |true=>
  cases p2:decide (m.cN<m.gt) with
  |false=>
  exact ⟨h1,by simp -implicitDefEqProofs only [V.x1, A.l0, q8, c8, A.cg, e1, p0, A1.aW, l78, af, ak, ao, fs, sf, beq_self_eq_true, ai, ah, Bool.false_eq_true, if_false, if_true, al, Nat.zero_add, Nat.reduceAdd, Bool.not_false, aE, aC, p1, p2, Bool.and_true, Bool.and_false, Bool.false_and, Bool.not_false],o1⟩
  |true=>
  cases p3:decide (m.data.length≤8192) with
  |false=>
  exact ⟨h1,by simp -implicitDefEqProofs only [V.x1, A.l0, q8, c8, A.cg, e1, p0, A1.aW, l78, A1.aX, ln1, lq, af, ak, ao, sf, beq_self_eq_true, ai, ah, if_true, al, Nat.zero_add, Nat.reduceAdd, Bool.not_false, aE, aC, p1, p2, p3, Bool.and_true, Bool.and_false, Bool.not_false],o1⟩
  |true=>
  exact ⟨h1,by simp -implicitDefEqProofs only [V.x1, A.l0, q8, c8, A.cg, e1, p0, A1.aW, l78, A1.aX, ln1, lq, af, ak, ao, sf, beq_self_eq_true, ai, ah, if_true, al, Nat.zero_add, Nat.reduceAdd, Bool.not_false, aE, aC, p1, p2, p3, Bool.and_true, Bool.not_false],o1⟩
 |false=>
 cases c10:m.kind==10 with
 |true=>
  rw [Bool.false_or,if_pos rfl]
  cases p0:manBad m with
  |true=>
   exact ⟨h1,by simp -implicitDefEqProofs only [V.x1, A.l0, q8, c8, q10, c10, A.cg, e1, af, ak, ao, fs, beq_self_eq_true, ai, ah, Bool.false_eq_true, if_false, al, Nat.zero_add, Bool.not_true, p0, Bool.false_and, Bool.not_true],o1⟩
  |false=>
  cases p1:decide (m.cN≥0) with
  |false=>
  exact ⟨h1,by simp -implicitDefEqProofs only [V.x1, A.l0, q8, c8, q10, c10, A.cg, e1, p0, A1.aW, af, ak, ao, fs, beq_self_eq_true, ai, ah, Bool.false_eq_true, if_false, if_true, al, Nat.zero_add, Nat.reduceAdd, Bool.not_false, aE, p1, Bool.and_false, Bool.false_and, Bool.not_false],o1⟩
  |true=>
  cases p2:decide (m.cN<m.gt) with
  |false=>
  exact ⟨h1,by simp -implicitDefEqProofs only [V.x1, A.l0, q8, c8, q10, c10, A.cg, e1, p0, A1.aW, l78, af, ak, ao, fs, beq_self_eq_true, ai, ah, Bool.false_eq_true, if_false, if_true, al, Nat.zero_add, Nat.reduceAdd, Bool.not_false, aE, aC, p1, p2, Bool.and_true, Bool.and_false, Bool.false_and, Bool.not_false],o1⟩
  |true=>
  cases p3:decide (m.data.length≤8192) with
  |false=>
  exact ⟨h1,by simp -implicitDefEqProofs only [V.x1, A.l0, q8, c8, q10, c10, A.cg, e1, p0, A1.aW, l78, A1.aX, ln1, lq, af, ak, ao, beq_self_eq_true, ai, Bool.false_eq_true, if_false, if_true, al, Nat.zero_add, Nat.reduceAdd, Bool.not_false, aE, aC, p1, p2, p3, Bool.and_true, Bool.and_false, Bool.not_false],o1⟩
  |true=>
  exact ⟨h1,by simp -implicitDefEqProofs only [V.x1, A.l0, q8, c8, q10, c10, A.cg, e1, p0, A1.aW, l78, A1.aX, ln1, lq, af, ak, ao, beq_self_eq_true, ai, Bool.false_eq_true, if_false, if_true, al, Nat.zero_add, Nat.reduceAdd, Bool.not_false, aE, aC, p1, p2, p3, Bool.and_true, Bool.not_false],o1⟩
 |false=>
  rw [Bool.false_or,if_neg (by decide)]
  exact ⟨g,by simp -implicitDefEqProofs only [V.x1, A.l0, q8, c8, q10, c10, af, ak, ao, beq_self_eq_true, ai, Bool.false_eq_true, if_false, al, Nat.zero_add, s25_6],Kept.refl _ _⟩
theorem b25_exit (C:au) (e:Env) (h:aj):b25_8 C 0 e h=k25s5 C e h:=rfl
theorem results25:Tryz.f25.results.toList = [.tmp 2]:=by kernel_rfl
def vlInv (g0:aj) (b:Nat) (s:cR) (m:aO) (k:Nat) (y:Nat→Value) (g:aj):Prop:=
 ∃ i,i+k=m.cp.length∧y 3=aH i∧V25 b s m y g∧Old g0 g∧(m.cp.take i).any (fun r => !recB r)=false
def vlFin (g0:aj) (b:Nat) (s:cR) (m:aO) (ex:Ex) (y:Nat→Value) (g:aj):Prop:=
 Old g0 g∧((ex = .ret∧y 2 = .bool false∧m.cp.any (fun r => !recB r)=true)∨(ex = .exit 0∧m.cp.any (fun r => !recB r)=false∧V25 b s m y g))
theorem vlRound {g0:aj} (hl:m.cp.length≤1000000) : ∀ k y g,vlInv g0 b s m k y g→dd 142 (vlInv g0 b s m) (vlFin g0 b s m) k (gm CW y g):=by
 rintro k y g ⟨i,hik,y3,V,o,ha⟩
 have A:=V.ld
 have ln:=V.hm.len.2.2.2.1
 unfold gm
 by_cases hi:i<m.cp.length
 ·obtain ⟨b',q,kb,_,a1,_,_,_,a2,_⟩:=V.hm.sl.d.at hi
  obtain ⟨r,hr⟩ : ∃ r,m.cp[i]? = some r:=⟨m.cp[i],List.getElem?_eq_getElem hi⟩
  have w:=V.hm.wf.cp r (List.mem_of_getElem? hr)
  have a1:bB 39 s.d (aH i)=some (ptr b' (q+i*39)):=a1
  have a2:bD 39 (ptr b' (q+i*39)) g=some (.agg (el 39 (m.cp.flatMap recC) i).toArray,g):=a2
  rw [el_flat150 V.hm.wf.cp hr] at a2
  obtain ⟨g',e,o'⟩:=r62 V.hG V.hz w
  have hs:(m.cp.take (i+1)).any (fun r => !recB r) = !recB r:=by
   rw [List.take_add_one,hr,List.any_append,ha]
   simp
  cases hp:recB r with
  |true=>
   rw [hp] at e
   simp -implicitDefEqProofs only [y3, V.x1, A.bW, ln, dg, decide_eq_true hi, a1, a2, e, af, ak, al, Nat.zero_add, Bool.not_true, av, ee (show i+1≤9223372036854775807 by omega)]
   exact dd.next (k-1) (by omega) ⟨i+1,by omega,rfl,V.go rfl o',o.trans o',by rw [hs,hp];rfl⟩
  |false=>
   rw [hp] at e
   simp -implicitDefEqProofs only [y3, V.x1, A.bW, ln, dg, decide_eq_true hi, a1, a2, e, af, ak, al, Nat.zero_add, Bool.not_false, av]
   refine dd.ret ⟨o.trans o',.inl ⟨rfl,rfl,?_⟩⟩
   rw [List.any_eq_true]
   exact ⟨r,List.mem_of_getElem? hr,by rw [hp];rfl⟩
 ·simp -implicitDefEqProofs only [y3, V.x1, A.bW, ln, dg, decide_eq_false hi, af, ak, al, Nat.zero_add]
  refine dd.out 0 ⟨o,.inr ⟨rfl,?_,V.go rfl (Kept.refl _ _)⟩⟩
  rw [List.take_of_length_le (by omega)] at ha
  exact ha
theorem s25_4 (hl:m.cp.length≤1000000) (V:V25 b s m x g) : ∃ h',k25s4 CW (aJ 142 x) g=some (.bool (v3B m&&v4B m),h')∧Old g h':=by
 rw [t25s4_eq]
 unfold t25s4
 rw [af]
 refine bY (Q:=fun o:Out => ∃ h',o=some (Value.bool (v3B m&&v4B m),h')∧Old g h') (bZ (t25l25_1111010_eq CW) (vlRound (g0:=g) (b:=b) (s:=s) (m:=m) hl) m.cp.length (by have:rounds=18446744073709551616:=rfl;omega)
  ⟨0,Nat.zero_add _,rfl,V.go rfl (Kept.refl _ _),Kept.refl _ _,rfl⟩) ?_
 rintro ex z g' ⟨o,⟨rfl,z2,ha⟩|⟨rfl,ha,V'⟩⟩
 ·unfold v3B
  rw [dG,fG results25 (by decide),z2,ha]
  exact ⟨g',rfl,o⟩
 ·unfold v3B
  rw [bE,b25_exit,ha]
  obtain ⟨h',e,o'⟩:=s25_5 V'
  exact ⟨h',e,o.trans o'⟩
theorem s25_3 (hl:m.cp.length≤1000000) (V:V25 b s m x g) : ∃ h',k25s3 CW (aJ 142 x) g=some (.bool (v2B m&&(v3B m&&v4B m)),h')∧Old g h':=by
 have A:=V.ld
 obtain ⟨-,ln1,ln2,ln3,-,-⟩:=V.hm.len
 have gt : ∀ a k:Nat,bin Tryz.prog .gtr 3 (aH a) (.int .i64 (k:Int))=some (.bool !(decide (a≤k))):=fun a k=>by
  rw [gtr3,←decide_not]
  congr 2
  exact decide_eq_decide.2 (by omega)
 have g1:bin Tryz.prog .gtr 3 (aH m.low.length) (.int .i64 34)=some (.bool !(decide (m.low.length≤34))):=gt _ 34
 have g2:bin Tryz.prog .gtr 3 (aH m.high.length) (.int .i64 34)=some (.bool !(decide (m.high.length≤34))):=gt _ 34
 have g3:bin Tryz.prog .gtr 3 (aH m.cp.length) (.int .i64 64)=some (.bool !(decide (m.cp.length≤64))):=gt _ 64
 have neg : ∀ (t:TypeId) (a k:Int),bin Tryz.prog .lss t (.int .i64 a) (.int .i64 k)=some (.bool !(decide (k≤a))):=fun t a k=>by
  rw [aC,←decide_not]
  congr 2
  exact decide_eq_decide.2 (by omega)
 have pos : ∀ (t:TypeId) (a k:Int),bin Tryz.prog .gtr t (.int .i64 a) (.int .i64 k)=some (.bool !(decide (a≤k))):=fun t a k=>by
  rw [aB,←decide_not]
  congr 2
  exact decide_eq_decide.2 (by omega)
 have n1:=neg 3 m.count 0
 have n2:=pos 3 m.count 1048576
 have n3:=neg 35 m.code 0
 have n4:=pos 35 m.code 999
 rw [t25s3_eq]
 unfold t25s3 v2B
 cases p1:decide (m.low.length≤34) with
 |false=>
  exact ⟨g,by simp -implicitDefEqProofs only [V.x1, A.l7, ln1, g1, af, ak, ao, sf, ah, if_true, al, Nat.zero_add, Bool.not_false, p1, Bool.false_and, Bool.not_false],Kept.refl _ _⟩
 |true=>
 cases p2:decide (m.high.length≤34) with
 |false=>
  exact ⟨g,by simp -implicitDefEqProofs only [V.x1, A.l7, A.l8, ln1, ln2, g1, g2, af, ak, ao, sf, beq_self_eq_true, ai, ah, Bool.false_eq_true, if_false, if_true, al, Nat.zero_add, Bool.not_true, Bool.not_false, p1, p2, Bool.and_false, Bool.false_and, Bool.not_true, Bool.not_false],Kept.refl _ _⟩
 |true=>
 cases p3:decide (0≤m.count) with
 |false=>
  exact ⟨g,by simp -implicitDefEqProofs only [V.x1, A.l7, A.l8, A.l9, ln1, ln2, g1, g2, n1, af, ak, ao, sf, beq_self_eq_true, ai, ah, Bool.false_eq_true, if_false, if_true, al, Nat.zero_add, Bool.not_true, Bool.not_false, p1, p2, p3, Bool.and_true, Bool.and_false, Bool.false_and, Bool.not_true, Bool.not_false],Kept.refl _ _⟩
 |true=>
 cases p4:decide (m.count≤1048576) with
 |false=>
  exact ⟨g,by simp -implicitDefEqProofs only [V.x1, A.l7, A.l8, A.l9, ln1, ln2, g1, g2, n1, n2, af, ak, ao, sf, beq_self_eq_true, ai, ah, Bool.false_eq_true, if_false, if_true, al, Nat.zero_add, Bool.not_true, Bool.not_false, p1, p2, p3, p4, Bool.and_true, Bool.and_false, Bool.false_and, Bool.not_true, Bool.not_false],Kept.refl _ _⟩
 |true=>
 cases p5:decide (m.cp.length≤64) with
 |false=>
  exact ⟨g,by simp -implicitDefEqProofs only [V.x1, A.l7, A.l8, A.l9, A.bW, ln1, ln2, ln3, g1, g2, g3, n1, n2, af, ak, ao, sf, beq_self_eq_true, ai, ah, Bool.false_eq_true, if_false, if_true, al, Nat.zero_add, Bool.not_true, Bool.not_false, p1, p2, p3, p4, p5, Bool.and_true, Bool.and_false, Bool.false_and, Bool.not_true, Bool.not_false],Kept.refl _ _⟩
 |true=>
 cases p6:decide (0≤m.code) with
 |false=>
  exact ⟨g,by simp -implicitDefEqProofs only [V.x1, A.l7, A.l8, A.l9, A.bW, A.aY, ln1, ln2, ln3, g1, g2, g3, n1, n2, n3, af, ak, ao, sf, beq_self_eq_true, ai, ah, Bool.false_eq_true, if_false, if_true, al, Nat.zero_add, Bool.not_true, Bool.not_false, p1, p2, p3, p4, p5, p6, Bool.and_true, Bool.and_false, Bool.false_and, Bool.not_true, Bool.not_false],Kept.refl _ _⟩
 |true=>
 cases p7:decide (m.code≤999) with
 |false=>
  exact ⟨g,by simp -implicitDefEqProofs only [V.x1, A.l7, A.l8, A.l9, A.bW, A.aY, ln1, ln2, ln3, g1, g2, g3, n1, n2, n3, n4, af, ak, ao, beq_self_eq_true, ai, Bool.false_eq_true, if_false, al, Nat.zero_add, Bool.not_true, Bool.not_false, p1, p2, p3, p4, p5, p6, p7, Bool.and_true, Bool.and_false, Bool.false_and, Bool.not_true, Bool.not_false],Kept.refl _ _⟩
 |true=>
 simp -implicitDefEqProofs only [V.x1, A.l7, A.l8, A.l9, A.bW, A.aY, ln1, ln2, ln3, g1, g2, g3, n1, n2, n3, n4, af, ak, ao, beq_self_eq_true, ai, Bool.false_eq_true, if_false, al, Nat.zero_add, Bool.not_true, p1, p2, p3, p4, p5, p6, p7, Bool.and_true, Bool.true_and, Bool.not_true]
 exact s25_4 hl (V.go rfl (Kept.refl _ _))
theorem s25_2 (hl:m.cp.length≤1000000) (V:V25 b s m x g) : ∃ h',k25s2 CW (aJ 142 x) g=some (.bool (v1B m&&(v2B m&&(v3B m&&v4B m))),h')∧Old g h':=by
 have A:=V.ld
 have e1:=r59 V.hG m.origin
 have e2:=r59 V.hG m.target
 obtain ⟨h3,e3,o3⟩:=r61 V.hG V.hm.sl.a V.hm.wf.table
 have e3:CW 61 [s.a] g=_:=e3
 have q3:bin Tryz.prog .leq 24 (.int .u8 (m.kind:Int)) (.int .u8 3)=some (.bool (decide (m.kind≤3))):=by
  rw [aD]
  congr 2
  exact decide_eq_decide.2 (by omega)
 have go3 : ∀ y,y 1=x 1 → ∃ h',k25s3 CW (aJ 142 y) h3=some (.bool (v2B m&&(v3B m&&v4B m)),h')∧Old g h':=fun y hy=>by
  obtain ⟨h',e,o⟩:=s25_3 hl (V.go hy o3)
  exact ⟨h',e,o3.trans o⟩
 rw [t25s2_eq]
 unfold t25s2 v1B
 by_cases c:m.kind≤3
 ·rw [if_pos c]
  rw [decide_eq_true c] at q3
  cases p1:gw m.origin with
  |false=>
   exact ⟨g,by simp -implicitDefEqProofs only [V.x1, A.l0, q3, A.l4, e1, af, ak, ao, sf, beq_self_eq_true, ai, ah, if_true, al, Nat.zero_add, Bool.not_false, av, p1, Bool.false_and, Bool.not_false],Kept.refl _ _⟩
  |true=>
  cases p2:gw m.target with
  |false=>
   exact ⟨g,by simp -implicitDefEqProofs only [V.x1, A.l0, q3, A.l4, A.l5, e1, e2, af, ak, ao, sf, beq_self_eq_true, ai, ah, Bool.false_eq_true, if_false, if_true, al, Nat.zero_add, Bool.not_true, Bool.not_false, av, p1, p2, Bool.and_false, Bool.false_and, Bool.not_true, Bool.not_false],Kept.refl _ _⟩
  |true=>
  cases p3:tableB m.table with
  |false=>
   exact ⟨h3,by simp -implicitDefEqProofs only [V.x1, A.l0, q3, A.l4, A.l5, A.l6, e1, e2, e3, af, ak, ao, beq_self_eq_true, ai, Bool.false_eq_true, if_false, if_true, al, Nat.zero_add, Bool.not_true, Bool.not_false, av, p1, p2, p3, Bool.and_true, Bool.and_false, Bool.false_and, Bool.not_true, Bool.not_false],o3⟩
  |true=>
  simp -implicitDefEqProofs only [V.x1, A.l0, q3, A.l4, A.l5, A.l6, e1, e2, e3, af, ak, ao, beq_self_eq_true, ai, Bool.false_eq_true, if_false, if_true, al, Nat.zero_add, Bool.not_true, av, p1, p2, p3, Bool.and_true, Bool.true_and, Bool.not_true]
  exact go3 _ rfl
 ·rw [if_neg c]
  rw [decide_eq_false c] at q3
  simp -implicitDefEqProofs only [V.x1, A.l0, q3, af, ak, ao, fs, ah, Bool.false_eq_true, if_false, al, Nat.zero_add, bu2, Bool.true_and]
  exact s25_3 hl (V.go rfl (Kept.refl _ _))
end
theorem cast34 (n:Nat):decide ((n:Int)≤34)=decide (n≤34):=decide_eq_decide.2 (by omega)
theorem cast64 (n:Nat):decide ((n:Int)≤64)=decide (n≤64):=decide_eq_decide.2 (by omega)
theorem cast8192 (n:Nat):decide ((n:Int)≤8192)=decide (n≤8192):=decide_eq_decide.2 (by omega)
theorem rest_eq {m:aO} (hk:kindOk m.kind=true) (e:m=fullM m):(v1B m&&(v2B m&&(v3B m&&v4B m)))=chkB m.kind m:=by
 obtain ⟨k,fr,to,sq,og,tg,ct,rt,wt,ob,gk,gn,gt,gs,mo,pi,co,tb,lo,hi,rc,pc,da⟩:=m
 rcases kinds hk with h|h|h|h|h|h|h|h|h|h|h|h|h<;>(have h:k=_:=h;subst h;rw [aO.mk.injEq] at e)
 all_goals obtain ⟨e1,e2,e3,e4,e5,e6,e7,e8,e9,e10,e11,e12,e13,e14,e15,e16,e17,e18,e19,e20,e21,e22,e23⟩:=e
 all_goals simp only [fullM,stripM,sPing,sReq,sSum,sItems,sObj,sPiece,sStored,aO.z] at e1 e2 e3 e4 e5 e6 e7 e8 e9 e10 e11 e12 e13 e14 e15 e16 e17 e18 e19 e20 e21 e22 e23
 all_goals unfold v1B v2B v3B v4B chkB
 all_goals simp only
 ·subst e19 e20 e7 e17 e21;simp [tabB]
 ·subst e19 e20 e7 e17 e21;simp [tabB]
 ·subst e19 e20 e7 e17 e21;simp [tabB]
 ·subst e17;unfold rangeB;rw [cast34,cast34,cast64];simp
 ·subst e17 e7;unfold rangeB;rw [cast34,cast34,cast64];simp
 ·subst e19 e20 e7 e17 e21;simp
 ·subst e19 e20 e7 e17 e21;simp
 ·subst e19 e20 e7 e17 e21;simp [pceB,cast8192]
 ·subst e19 e20 e7 e17 e21;simp
 ·subst e19 e20 e7 e17 e21;simp [pceB,cast8192]
 ·subst e19 e20 e7 e21;simp [codeB]
 ·subst e19 e20 e7 e17 e21;simp
 ·subst e19 e20 e7 e17 e21;simp
theorem is25:bO Tryz.prog 25 Tryz.f25:=⟨by kernel_rfl,by kernel_rfl,by kernel_rfl,by kernel_rfl⟩
section
variable {h:aj} {s:cR} {m:aO} (hG:4≤h.n0) (hz:GZ h) (x:Has h s m) (sm:m.n.Small)
include hG hz x sm
set_option maxRecDepth 100000 in
theorem r25 : ∃ h',CW 25 [mv m s] h=some (.bool (ft m),h')∧Old h h':=by
 have key : ∃ h',k25s0 CW (aJ 142 (bs [mv m s])) h=some (.bool (ft m),h')∧Old h h':=by
  obtain ⟨h1,b1,o1,x1,A1,n1,-⟩:=m_box x
  have hG1:4≤h1.n0:=by rw [o1.n0];exact hG
  have V1 : ∀ y g,y 1=ptr h.next 0→Old h1 g→V25 h.next s m y g:=fun y g hy o=>⟨by rw [o.n0];exact hG1,(hz.bA o1).bA o,hy,Old.get o A1.g,x1.bA o⟩
  rw [t25s0_eq]
  unfold t25s0
  rw [show bs [mv m s] 0=mv m s from rfl]
  simp -implicitDefEqProofs only [b1,af]
  have go1 : ∀ y,y 1=ptr h.next 0 → ∃ h',k25s1 CW (aJ 142 y) h1=some (.bool (ft m),h')∧Old h h':=by
   intro y y1
   have q1:bin Tryz.prog .lss 24 (.int .u8 (m.kind:Int)) (.int .u8 1)=some (.bool (decide (m.kind<1))):=by
    rw [aC]
    congr 2
    exact decide_eq_decide.2 (by omega)
   have q2:bin Tryz.prog .gtr 24 (.int .u8 (m.kind:Int)) (.int .u8 13)=some (.bool (decide (13<m.kind))):=by
    rw [aB]
    congr 2
    exact decide_eq_decide.2 (by omega)
   have e3:=r59 hG1 m.from_
   have e4:=r59 hG1 m.to_
   have q5:bin Tryz.prog .eql 3 (.int .i64 m.from_) (.int .i64 m.to_)=some (.bool (m.from_==m.to_)):=az ..
   have ckf : ∀ o v,dH false o v=true:=fun _ _=>rfl
   have bt : ∀ b:Bool,(aI (.bool b)==some false) = !b:=fun b=>by cases b<;>rfl
   rw [t25s1_eq]
   unfold t25s1 ft
   by_cases c1:m.kind<1
   ·rw [decide_eq_true c1] at q1
    have hk:kindOk m.kind=false:=by
     unfold kindOk
     have h0:m.kind=0:=by omega
     rw [h0];rfl
    rw [hk]
    exact ⟨h1,by simp -implicitDefEqProofs only [y1, A1.l0, q1, ckf, af, ak, ao, sf, ah, if_true, al, Nat.zero_add, Bool.and_true, Bool.false_and],o1⟩
   rw [decide_eq_false c1] at q1
   by_cases c2:13<m.kind
   ·rw [decide_eq_true c2] at q2
    have hk:kindOk m.kind=false:=by
     unfold kindOk
     rw [Bool.and_eq_false_iff]
     right
     cases h:Nat.ble m.kind 13 with
     |false=>rfl
     |true=>have:=Nat.le_of_ble_eq_true h;omega
    rw [hk]
    exact ⟨h1,by simp -implicitDefEqProofs only [y1, A1.l0, q1, q2, ckf, af, ak, ao, sf, beq_self_eq_true, ai, ah, Bool.false_eq_true, if_false, if_true, al, Nat.zero_add, Bool.and_true, Bool.false_and],o1⟩
   rw [decide_eq_false c2] at q2
   have hk:kindOk m.kind=true:=by
    unfold kindOk
    rw [Bool.and_eq_true]
    exact ⟨Nat.ble_eq_true_of_le (by omega),Nat.ble_eq_true_of_le (by omega)⟩
   rw [hk]
   cases p3:gw m.from_ with
   |false=>exact ⟨h1,by simp -implicitDefEqProofs only [y1, A1.l0, A1.l1, e3, p3, q1, q2, ckf, af, ak, ao, sf, beq_self_eq_true, ai, ah, Bool.false_eq_true, if_false, if_true, al, Nat.zero_add, Bool.not_false, av, Bool.and_true, Bool.and_false, Bool.false_and, Bool.not_false],o1⟩
   |true=>
   cases p4:gw m.to_ with
   |false=>exact ⟨h1,by simp -implicitDefEqProofs only [y1, A1.l0, A1.l1, A1.l2, e3, p3, e4, p4, q1, q2, ckf, af, ak, ao, sf, beq_self_eq_true, ai, ah, Bool.false_eq_true, if_false, if_true, al, Nat.zero_add, Bool.not_true, Bool.not_false, av, Bool.and_true, Bool.and_false, Bool.false_and, Bool.not_true, Bool.not_false],o1⟩
   |true=>
   cases p5:m.from_==m.to_ with
   |true=>exact ⟨h1,by simp -implicitDefEqProofs only [y1, A1.l0, A1.l1, A1.l2, e3, p3, e4, p4, q5, p5, q1, q2, ckf, af, ak, ao, sf, beq_self_eq_true, ai, ah, Bool.false_eq_true, if_false, if_true, al, Nat.zero_add, Bool.not_true, av, Bool.and_true, Bool.and_false, Bool.false_and, Bool.not_true],o1⟩
   |false=>
   obtain ⟨s2,h2,e6,x2,o2⟩:=r60 hG1 x1 hk
   have A2:=m_ld (x1.bA o2) (Old.get o2 A1.g)
   obtain ⟨h3,e7,o3⟩:=r15m (h:=h2) (by rw [o2.n0];exact hG1) (x1.bA o2) x2 sm
   have ck:=fM A2.all (veqM x.sl (aO.ok x.wf))
   have o13:=o2.trans o3
   by_cases c6:m=fullM m
   ·rw [decide_eq_true c6] at e7 ⊢
    rw [←rest_eq hk c6]
    have go2 : ∀ y',y' 1=ptr h.next 0 → ∃ h',k25s2 CW (aJ 142 y') h3=some (.bool (v1B m&&(v2B m&&(v3B m&&v4B m))),h')∧Old h h':=fun y' hy=>by
     obtain ⟨h',e,o⟩:=s25_2 sm.d (V1 y' h3 hy o13)
     exact ⟨h',e,o1.trans (o13.trans o)⟩
    simp -implicitDefEqProofs only [y1, A1.l0, A1.l1, A1.l2, A1.all, e3, p3, e4, p4, q5, p5, q1, q2, e6, e7, ck, af, ak, ao, beq_self_eq_true, ai, Bool.false_eq_true, if_false, al, Nat.zero_add, Bool.not_true, Bool.not_false, av, Bool.and_true, Bool.true_and, Bool.not_true, Bool.not_false]
    exact go2 _ y1
   ·rw [decide_eq_false c6] at e7 ⊢
    refine ⟨h3,?_,o1.trans o13⟩
    simp -implicitDefEqProofs only [y1, A1.l0, A1.l1, A1.l2, A1.all, e3, p3, e4, p4, q5, p5, q1, q2, e6, e7, ck, af, ak, ao, beq_self_eq_true, ai, Bool.false_eq_true, if_false, al, Nat.zero_add, Bool.not_true, Bool.not_false, av, Bool.and_true, Bool.true_and, Bool.and_false, Bool.not_true, Bool.not_false]
  exact go1 _ rfl
 obtain ⟨h',e,o⟩:=key
 exact ⟨h',aF is25 hG rfl ((t25_eq _ _ _).trans e),o⟩
end
end Go.Proofs.YtjghlcdidopcpaaGreatDoor

