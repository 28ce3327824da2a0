/-
  A part of the proof, spaces and names shortened by a program (a claim may hold 1,500,000 bytes).
  Conditions: as each theorem states.
-/
import Derived.Test.YtdnahgfgoajmcaaDoorG14
namespace Go.Proofs.YtdnahgfgoajmcaaDoor
open Go Go.Abs
attribute [local congr] aq
set_option maxRecDepth 100000 in
theorem tre1 {h:ab} (hG:4≤h.n0) (hz:h.get 3=some bZ) {N d i:Nat} {D:List Nat} {vs:Value} {S:List (List Nat)} (hN:h.n0≤N) (hNn:N≤d) (hS:Stk h N vs S.reverse) (hD:gz D) (hd:h.get d=some (aV D)) (hds : ∀ b,stB vs=some b → ¬b=d) (hi:i≤1048576) (hp:S.length=pc i)
  {q15 q16 q17 q2:Value} {x:Nat→Value} (x3:x 3=vs) (x6:x 6=ptr d 0) (x7:x 7=ak i) (x15:x 15=q15) (x16:x 16=q16) (x17:x 17=q17) (x2:x 2=q2) :
  Fin 66 (fun ex y g=>ex = .exit 2∧y 6=ptr d 0∧y 15=q15∧y 16=q16∧y 17=q17∧y 2=q2∧Kept h g (· = d) ∧ ∃ D' S' vs',y 3=vs'∧Stk g N vs' S'.reverse∧stB vs'=stB vs∧gz D'∧g.get d=some (aV D')∧push cV i D S i=D'::S') (iter (av Tryd.prog CW (partOf Tryd.f54 [1,1,1,0,1,0,0,1,1,0,0,1,1,0,1,0,0])) rounds (aO 66 x) h):=by
 refine bP (t54l54_1110100110011010_eq CW) (Inv:=fun k y g => ∃ i' D' S' vs',i'≤k∧i'≤1048576∧y 3=vs'∧y 6=ptr d 0∧y 7=ak i'∧y 15=q15∧y 16=q16∧y 17=q17∧y 2=q2∧Kept h g (· = d)∧Stk g N vs' S'.reverse∧stB vs'=stB vs∧gz D'∧g.get d=some (aV D')∧S'.length=pc i'∧push cV k D' S' i'=push cV i D S i) ?_ i (by have:rounds=18446744073709551616:=rfl;omega) ⟨i,D,S,vs,Nat.le_refl _,hi,x3,x6,x7,x15,x16,x17,x2,Kept.refl _ _,hS,rfl,hD,hd,hp,rfl⟩
 rintro k y g ⟨i',D',S',vs',hk,hi',y3,y6,y7,y15,y16,y17,y2,K,sk,hb,dD,gd,hp',hpu⟩
 have e1:bin Tryd.prog .eql 3 (ak (i'%2)) (.int .i64 1)=some (.bool (decide (i'%2=1))):=eql1 _
 unfold dZ
 simp -implicitDefEqProofs only [y7,and1 hi',e1,ad,af]
 by_cases c:i'%2=1
 ·rw [pc_step,c] at hp'
  cases k with
  |zero=>omega
  |succ k=>
   cases S' with
   |nil=>rw [List.length_nil] at hp';omega
   |cons p S'=>
    rw [List.length_cons] at hp'
    have hp'':S'.length=pc (i'/2):=by omega
    rw [List.reverse_cons] at sk
    obtain ⟨P,gs⟩:=sk.pr
    obtain ⟨b,o,ix,dp,lp⟩:=PR.last P
    obtain ⟨v2,e2,sk2,hb2⟩:=sk.pop
    have hll:=sk.len
    rw [List.length_append,List.length_singleton] at hll
    have Lp:=lp g (Kept.refl _ _)
    have cD:=aW dD
    have L6:=bh gd cD.1 cD.2.1
    have hSl:S'.reverse.length≤1000000:=by
     rw [List.length_reverse]
     have hpc : ∀ (f j:Nat),pcG f j≤f:=by
      intro f
      induction f with
      |zero=>intro j;exact Nat.le_refl _
      |succ f ih=>
       intro j
       have:=ih (j/2)
       show j%2+pcG f (j/2)≤f+1
       omega
     have:=hpc (i'/2) (i'/2)
     unfold pc at hp''
     omega
    have sb:bin Tryd.prog .sub 3 (ak (S'.reverse.length+1)) (.int .i64 1)=some (ak S'.reverse.length):=sub_n1 (by omega) (by omega)
    have G2:4≤g.n0:=by rw [K.n0];exact hG
    have hdn:g.n0≤d:=by rw [K.n0];omega
    have Z2:g.get 3=some bZ:=Kept.dX K hz (by omega)
    obtain ⟨g4,e4,o4⟩:=r70 (h:=g) G2 Z2 dp dD
    have dn:=aW (nodeD_ok p D')
    obtain ⟨g5,e5,k5,g5',_,n5⟩:=aS (n:=32) (k':=aV (cV p D')) (Old.get o4 gd) (by rw [o4.n0];exact hdn) cD.1 dn.1 dn.2.2
    have sh:bin Tryd.prog .shr 3 (ak i') (.int .u64 1)=some (ak (i'/2)):=shr1
    simp -implicitDefEqProofs only [decide_eq_true c,y3,y6,y7,hll,sb,ix,Lp,L6,e4,e5,e2,sh,ad,af]
    refine dU.next k (by omega) ⟨i'/2,cV p D',S',v2,by omega,by omega,rfl,y6,rfl,y15,y16,y17,y2,(K.trans (o4.mono (fun _ _ h=>h.elim))).trans k5,?_,hb2.trans hb,nodeD_ok _ _,g5',hp'',?_⟩
    ·refine (sk2.bS o4).keep k5 fun b' hb' => ?_
     rw [hb2,hb] at hb'
     exact hds b' hb'
    ·rw [push_s,if_pos c] at hpu
     exact hpu
 ·simp -implicitDefEqProofs only [decide_eq_false c,ad,af]
  refine dU.out 2 ⟨rfl,y6,y15,y16,y17,y2,K,D',S',vs',y3,sk,hb,dD,gd,?_⟩
  rw [←hpu]
  cases k with
  |zero=>rfl
  |succ k=>rw [push_s,if_neg c]
end Go.Proofs.YtdnahgfgoajmcaaDoor

namespace Go.Proofs.YtdnahgfgoajmcaaDoor
open Go Go.Abs
attribute [local congr] aq
theorem bsl_dig (g:ab) {D:List Nat} (dD:gz D):cO 32 (.agg (List.replicate 32 (.int .u8 0)).toArray) 1 [(0,.agg (aV D).toArray)] g=some (.slice (some ⟨g.next,0,none⟩) 1 1,g.alloc (aV D)):=by
 have c:=aW dD
 have e1:(Value.agg (aV D).toArray).cells=(aV D).toArray:=rfl
 have hz:dx (Value.agg (List.replicate 32 (.int .u8 0)).toArray).cells.toList 1=List.replicate 32 (.int .u8 0):=rfl
 have e2:dt (List.replicate 32 (.int .u8 0)) [(0*32,32,Value.agg (aV D).toArray)]=some (aV D):=by
  unfold dt
  rw [e1,if_pos (by simp [c.1])]
  unfold dt
  congr 1
  unfold bK
  rw [Nat.zero_mul,List.take_zero,List.nil_append,Nat.zero_add,List.drop_eq_nil_of_le (by rw [List.length_replicate];simp [c.1]),List.append_nil]
 have hc:(flatAll (Value.agg (List.replicate 32 (.int .u8 0)).toArray).cells.toList&&(Value.agg (List.replicate 32 (.int .u8 0)).toArray).cells.size=32&&0<32&&1*32≤16777216&&aJ ([((0:Nat),Value.agg (aV D).toArray)].flatMap fun x=>x.2.cells.toList))=true:=by
  rw [List.flatMap_cons,List.flatMap_nil,List.append_nil,e1,c.2.2]
  rfl
 unfold cO
 rw [if_pos (by simpa using hc),hz,List.map_cons,List.map_nil]
 simp only [e2]
theorem pc_le (i:Nat):pc i≤i:=by
 have hpc : ∀ (f j:Nat),pcG f j≤f:=by
  intro f
  induction f with
  |zero=>intro j;exact Nat.le_refl _
  |succ f ih=>
   intro j
   have:=ih (j/2)
   show j%2+pcG f (j/2)≤f+1
   omega
 exact hpc i i
def lvs (L:List ao):List (List Nat):=L.map leafD
theorem lvs_take {L:List ao} {i:Nat} (hi:i<L.length):lvs (L.take (i+1))=lvs (L.take i) ++ [leafD (L.getD i ao.z)]:=by
 unfold lvs
 rw [List.take_add_one,List.map_append,List.getElem?_eq_getElem hi,List.getD_eq_getElem?_getD,List.getElem?_eq_getElem hi]
 rfl
set_option maxRecDepth 100000 in
theorem tre2 {h:ab} (hG:4≤h.n0) (hz:h.get 3=some bZ) {N d2:Nat} {v:Value} {L:List ao} (hN:N=h.next) (hv:RSl h v L) (hval : ∀ r∈L,dK r=true) (hl:L.length≤1000000)
  {x:Nat→Value} (x3:x 3 = .slice none 0 0) (x15:x 15=v) (x16:x 16=ak L.length) (x17:x 17=ak 0) (x2:x 2=ptr d2 0) :
  Fin 66 (fun ex y g=>ex = .exit 0∧y 2=ptr d2 0∧Old h g∧Stk g N (y 3) (stk cV (lvs L) [] 0).reverse) (iter (av Tryd.prog CW (partOf Tryd.f54 [1,1,1,0,1,0,0])) rounds (aO 66 x) h):=by
 refine bP (t54l54_111010_eq CW) (Inv:=fun k y g => ∃ i,i+k=L.length∧y 15=v∧y 16=ak L.length∧y 17=ak i∧y 2=ptr d2 0∧Old h g∧Stk g N (y 3) (stk cV (lvs (L.take i)) [] 0).reverse) ?_ L.length (by have:rounds=18446744073709551616:=rfl;omega) ⟨0,by omega,x15,x16,x17,x2,Kept.refl _ _,by rw [x3];exact Stk.nil h N⟩
 rintro k y g ⟨i,hik,y15,y16,y17,y2,O,sk⟩
 unfold t54l54_111010
 simp -implicitDefEqProofs only [y16,y17,lss3,ad,af]
 by_cases hi:i<L.length
 ·obtain ⟨b,o,ix,wr,mr,lp⟩:=hv.at hi
  have vr:=hval _ mr
  have htk:=lvs_take hi
  have hli:(lvs (L.take i)).length=i:=by unfold lvs;rw [List.length_map,List.length_take];omega
  have hsl:=stk_len cV (lvs (L.take i)) [] 0 rfl
  rw [hli,Nat.zero_add] at hsl
  generalize hr:L.getD i ao.z=r at *
  generalize hSS:stk cV (lvs (L.take i)) [] 0=S at *
  have L1:=lp g O
  have cr:=bg wr
  obtain ⟨g1,z1,o1,q1,n1⟩:=fresh (recC ao.z) g
  obtain ⟨g2,e2,k2,q2,_,n2⟩:=aS (n:=39) (k':=recC r) q1 (by rw [o1.n0];exact g.ax) rfl cr.1 cr.2.2
  have o2:Old g g2:=Old.bA o1 k2 (Nat.le_refl _)
  have L2:=bh q2 cr.1 cr.2.1
  have O2:=O.trans o2
  obtain ⟨g3,e3,o3⟩:=r69 (h:=g2) (by rw [O2.n0];exact hG) (Old.get O2 hz) wr vr
  have O3:=O2.trans o3
  obtain ⟨g4,z4,o4,q4,n4⟩:=fresh (List.replicate 32 (.int .u8 0)) g3
  have dl:=aW (leafD_ok r)
  obtain ⟨g5,e5,k5,q5,_,n5⟩:=aS (n:=32) (k':=aV (leafD r)) q4 (by rw [o4.n0];exact g3.ax) rfl dl.1 dl.2.2
  have o5:Old g3 g5:=Old.bA o4 k5 (Nat.le_refl _)
  have O5:=O3.trans o5
  have sk5:Stk g5 N (y 3) S.reverse:=((sk.bS o2).bS o3).bS o5
  have hNlt:N≤g3.next:=by have:=O3.next;omega
  have z1:dJ [(.int .u8 0),(.int .u8 0),(.int .u8 0),(.int .u8 0),(.int .u8 0),(.int .u8 0),(.int .u8 0),(.int .u8 0),(.int .u8 0),(.int .u8 0),(.int .u8 0),(.int .u8 0),(.int .u8 0),(.int .u8 0),(.int .u8 0),(.int .u8 0),(.int .u8 0),(.int .u8 0),(.int .u8 0),(.int .u8 0),(.int .u8 0),(.int .u8 0),(.int .u8 0),(.int .u8 0),(.int .u8 0),(.int .u8 0),(.int .u8 0),(.int .u8 0),(.int .u8 0),(.int .u8 0),(.int .u8 0),(.int .u8 0),(.int .u8 0),(.int .i64 0),(.int .u64 0),(.int .u64 0),(.bool false),(.int .i64 0),(.int .i64 0)] g=some (ptr g.next 0,g1):=z1
  simp -implicitDefEqProofs only [decide_eq_true hi,y15,ix,L1,z1,e2,L2,e3,z4,e5,ad,af]
  refine bO (n:=66) (Q:=fun o=>dU 66 _ _ k o) (tre1 (h:=g5) (by rw [O5.n0];exact hG) (Old.get O5 hz) (N:=N) (d:=g3.next) (i:=i) (S:=S) (vs:=y 3) (q15:=v) (q16:=ak L.length) (q17:=ak i) (q2:=ptr d2 0) (by rw [O5.n0];have:=h.ax;omega) hNlt sk5 (leafD_ok r) q5 (fun b' hb'=>by
   have:=(sk.lt hb').2
   have:=O3.next
   have:=o2.next
   have:=o3.next
   omega) (by omega) hsl rfl rfl rfl y15 y16 y17 y2) ?_
  rintro _ z g6 ⟨rfl,z6,z15,z16,z17,z2,K6,D',S',vs',z3,sk6,hb6,dD,gd,hpu⟩
  simp -implicitDefEqProofs only [bB,b54_20,if_true,t54k54_18_eq]
  unfold t54k54_18
  have O6:Old h g6:=Old.bA O5 K6 (by omega)
  have cD:=aW dD
  have L6:=bh gd cD.1 cD.2.1
  have b7:cO 32 (.agg (List.replicate 32 (.int .u8 0)).toArray) 1 [(0,.agg (aV D').toArray)] g6=some (.slice (some ⟨g6.next,0,none⟩) 1 1,g6.alloc (aV D')):=bsl_dig g6 dD
  have o7:Old g6 (g6.alloc (aV D')):=Kept.alloc _ _ _
  have q7:(g6.alloc (aV D')).get g6.next=some (aV D'):=by rw [ab.aK,if_pos rfl]
  have hS'l:S'.reverse.length≤1000000:=by
   have:=push_len cV i (leafD r) S i (Nat.le_refl _) hsl
   rw [hpu,List.length_cons] at this
   have hpc:=pc_le (i+1)
   rw [List.length_reverse]
   omega
  obtain ⟨v8,g8,e8,sk8,k8,hb8⟩:=(sk6.bS o7).push (c:=g6.next) (by rw [o7.n0,O6.n0];have:=h.ax;omega) (by have:=O6.next;have:=o7.next;omega) dD hS'l q7
  have O8:Old h g8:=(O6.trans o7).also k8 (fun b' hb' hs=>by
   have:=((sk6.bS o7).lt hs).1
   omega)
  simp -implicitDefEqProofs only [z3,z6,L6,b7,e8,ad,af,t54k54_14_eq]
  unfold t54k54_14
  have a17:bin Tryd.prog .add 3 (ak i) (.int .i64 1)=some (ak (i+1)):=fc (by omega)
  have z17':up z [(3,v8),(43,vs'),(44,.agg (aV D').toArray),(45,.slice (some ⟨g6.next,0,none⟩) 1 1),(46,v8)] 17=ak i:=z17
  simp -implicitDefEqProofs only [z17',a17,ad,af]
  refine dU.next (k-1) (by omega) ⟨i+1,by omega,z15,z16,rfl,z2,O8,?_⟩
  have e9:(stk cV (lvs (L.take (i+1))) [] 0).reverse=S'.reverse ++ [D']:=by
   rw [htk,stk_snoc,hSS,hli,hpu,List.reverse_cons]
  rw [e9]
  exact sk8
 ·have:i=L.length:=by omega
  subst this
  simp -implicitDefEqProofs only [decide_eq_false hi,ad,af]
  rw [List.take_length] at sk
  exact dU.out 0 ⟨rfl,y2,O,sk⟩
end Go.Proofs.YtdnahgfgoajmcaaDoor

namespace Go.Proofs.YtdnahgfgoajmcaaDoor
open Go Go.Abs
attribute [local congr] aq
theorem rng54:partOf Tryd.f54 [1,1,1,1,1,0,1,0] = .rangeFunc (.tmp 59) #[60,61] (rgA (partOf Tryd.f54 [1,1,1,1,1,0,1,0])) (rgB (partOf Tryd.f54 [1,1,1,1,1,0,1,0])):=by kernel_rfl
theorem rng54a:codeOk Tryd.prog (rgA (partOf Tryd.f54 [1,1,1,1,1,0,1,0]))=true:=by kernel_rfl
theorem rng54b:codeOk Tryd.prog (rgB (partOf Tryd.f54 [1,1,1,1,1,0,1,0]))=true:=by kernel_rfl
theorem body135:hasBody Tryd.prog 135=true:=by kernel_rfl
theorem take_rev {T:List (List Nat)} {j:Nat} (hj:j<T.length):(T.take (j+1)).reverse=T.getD j []::(T.take j).reverse:=by
 rw [List.take_add_one,List.getElem?_eq_getElem hj,List.getD_eq_getElem?_getD,List.getElem?_eq_getElem hj]
 simp
set_option maxRecDepth 100000 in
theorem tre3 {h:ab} (hG:4≤h.n0) (hz:h.get 3=some bZ) {d c:Nat} {w:Value} {T:List (List Nat)} {D:List Nat} {x:Nat→Value} (x8:x 8=ptr d 0) (x59:x 59 = .func (.func 135) #[] #[ptr c 0])
  (hw:PR h w T) (hww:isHole w=false) (hT:T.length≤1000000) (hwd : ∀ j b o,j<T.length→df 32 w (ak j)=some (ptr b o) → ¬b=d) (hc:h.get c=some [w]) (hcd : ¬c=d) (hd:h.get d=some (aV D)) (hD:gz D) (hd0:h.n0≤d) (hd3 : ¬3=d) :
  ∃ h',av Tryd.prog CW (partOf Tryd.f54 [1,1,1,1,1,0,1,0]) (aO 66 x) h=some (.normal,aO 66 x,h')∧Kept h h' (· = d)∧h'.get d=some (aV (finS cV (D::T.reverse))):=by
 have hdn:=h.aP hd
 have hcn:=h.aP hc
 generalize hA:rgA (partOf Tryd.f54 [1,1,1,1,1,0,1,0])=ca at *
 generalize hB:rgB (partOf Tryd.f54 [1,1,1,1,1,0,1,0])=cb at *
 have L0:=LpR.new h (aO 66 x) [60,61] ca cb
 have k0:Old h (h.aZ (.obj (.loop .ready none (aO 66 x) [60,61] ca cb))):=Kept.dY _ _ _
 have n0:(h.aZ (.obj (.loop .ready none (aO 66 x) [60,61] ca cb))).next=h.next+1:=rfl
 have hk : ∀ g,Kept (h.aZ (.obj (.loop .ready none (aO 66 x) [60,61] ca cb))) g (fun b=>b=d∨b=h.next)→Kept h g (fun b=>b=d∨b=h.next):=fun g k=>(k0.mono (fun _ _ h=>h.elim)).trans k
 generalize hh0:h.aZ (.obj (.loop .ready none (aO 66 x) [60,61] ca cb))=h0 at *
 obtain ⟨h2,e2,K2,R2,g2,_⟩:=r135 (h:=h0) (by rw [k0.n0];exact hG) (L:=h.next) (c:=c) (w:=w) (T:=T) hT
  (fun j g=>Kept h g (fun b=>b=d∨b=h.next)∧LpR g h.next (aO 66 x) [60,61] ca cb∧h0.next≤g.next ∧ ∃ D',g.get d=some (aV D')∧gz D'∧(T.take j).reverse.foldl (fun d x=>cV x d) D'=T.reverse.foldl (fun d x=>cV x d) D)
  (fun j g ⟨K,_,_,_⟩=>by
   refine ⟨?_,hw.1,hw.2.1,fun j hj => ?_⟩
   ·exact aQ (K.dX hc (fun q=>by rcases q with q|q<;>omega)) (by rfl) hww
   ·obtain ⟨b,o,h1,h2,h3⟩:=hw.2.2 j hj
    have hne:=hwd j b o hj h1
    have hb:g.get b=h.get b:=Kept.get K b h2 (fun q=>by rcases q with q|q<;>omega)
    exact ⟨b,o,h1,Nat.lt_of_lt_of_le h2 K.next,fun g' e=>h3 g' (e.trans hb)⟩)
  (fun j g hj ⟨K,R,hn,D',gd,dD,hf⟩=>by
   have G:4≤g.n0:=by rw [K.n0];exact hG
   have hp:gz (T.getD j []):=hw.2.1 _ (by
    rw [List.getD_eq_getElem?_getD,List.getElem?_eq_getElem hj]
    exact List.getElem_mem hj)
   rw [take_rev hj,List.foldl_cons] at hf
   generalize T.getD j []=p at *
   have cp:=aW hp
   have cD:=aW dD
   obtain ⟨g3,z3,o3,g3',n3⟩:=fresh (List.replicate 32 (.int .u8 0)) g
   obtain ⟨g4,e4,k4,g4',_,n4⟩:=aS (n:=32) (k':=aV p) g3' (by rw [o3.n0];exact g.ax) rfl cp.1 cp.2.2
   have o4:Old g g4:=Old.bA o3 k4 (Nat.le_refl _)
   have ha:av Tryd.prog CW ca (eG (aO 66 x) ([60,61].zip [ak j,.agg (aV p).toArray])) g=some (.normal,aO 66 (up (up (up x [(60,ak j)]) [(61,.agg (aV p).toArray)]) [(10,ptr g.next 0)]),g4):=by
    show av Tryd.prog CW ca (((aO 66 x).set 60 (ak j)).set 61 (.agg (aV p).toArray)) g=_
    rw [mkF_set,mkF_set,←hA,t54l54_11111010a_eq]
    unfold t54l54_11111010a
    have y61:up (up x [(60,ak j)]) [(61,.agg (aV p).toArray)] 61 = .agg (aV p).toArray:=rfl
    simp -implicitDefEqProofs only [y61,z3,e4,ad,af]
   have R4:LpR g4 h.next (aO 66 x) [60,61] ca cb:=R.keep o4 (fun h=>h)
   have R4':=R4
   unfold LpR at R4'
   have kS:Kept g4 (g4.bF h.next (.loop .busy none (aO 66 x) [60,61] ca cb)) (· = h.next):=Kept.bF R4' rfl
   have gS : ∀ b,(g4.bF h.next (.loop .busy none (aO 66 x) [60,61] ca cb)).get b=g4.get b:=fun b=>ab.get_setO R4' _ b
   have nS:(g4.bF h.next (.loop .busy none (aO 66 x) [60,61] ca cb)).next=g4.next:=rfl
   generalize hg5:g4.bF h.next (.loop .busy none (aO 66 x) [60,61] ca cb)=g5 at *
   have G5:4≤g5.n0:=by rw [kS.n0,o4.n0];exact G
   have q10:g5.get g.next=some (aV p):=(gS _).trans g4'
   have q8:g5.get d=some (aV D'):=(gS _).trans (Old.get o4 gd)
   have Z5:g5.get 3=some bZ:=(gS _).trans (Old.get o4 (K.dX hz (fun q=>by
    have:=h.aP hz
    rcases q with q|q<;>omega)))
   have l10:=bh q10 cp.1 cp.2.1
   have l8:=bh q8 cD.1 cD.2.1
   obtain ⟨g6,e6,o6⟩:=r70 (h:=g5) G5 Z5 hp dD
   have dn:=aW (nodeD_ok p D')
   obtain ⟨g7,e7,k7,g7',_,n7⟩:=aS (n:=32) (k':=aV (cV p D')) (Old.get o6 q8) (by rw [o6.n0,kS.n0,o4.n0,K.n0];exact hd0) cD.1 dn.1 dn.2.2
   have hb:av Tryd.prog CW cb (aO 66 (up (up (up x [(60,ak j)]) [(61,.agg (aV p).toArray)]) [(10,ptr g.next 0)])) g5=some (.normal,aO 66 (up (up (up (up x [(60,ak j)]) [(61,.agg (aV p).toArray)]) [(10,ptr g.next 0)]) [(62,.agg (aV p).toArray),(63,.agg (aV D').toArray),(64,.agg (aV (cV p D')).toArray)]),g7):=by
    rw [←hB,t54l54_11111010b_eq]
    unfold t54l54_11111010b
    have y10:up (up (up x [(60,ak j)]) [(61,.agg (aV p).toArray)]) [(10,ptr g.next 0)] 10=ptr g.next 0:=rfl
    have y8:up (up (up x [(60,ak j)]) [(61,.agg (aV p).toArray)]) [(10,ptr g.next 0)] 8=ptr d 0:=x8
    simp -implicitDefEqProofs only [y10,y8,l10,l8,e6,e7,ad,af]
   have k57:Kept g5 g7 (· = d):=(o6.mono (fun _ _ h=>h.elim)).trans k7
   obtain ⟨g8,e8,R8,n8,m8,s8,b8⟩:=LpR.round (B:=(· = d)) R rfl (by rw [←hA];exact rng54a) (by rw [←hB];exact rng54b) ha (o4.mono (fun _ _ h=>h.elim)) (show ¬h.next=d by omega) (by rw [hg5];exact hb) (by rw [hg5];exact k57)
   have hnx:g.next≤g8.next:=by
    have:=o4.next
    have:=k57.next
    omega
   have K8:Kept g g8 (fun b=>b=d∨b=h.next):=by
    refine ⟨m8,hnx,fun b hb hq => ?_⟩
    have q1 : ¬b=d:=fun q=>hq (.inl q)
    have q2 : ¬b=h.next:=fun q=>hq (.inr q)
    have n4':=o4.next
    rw [b8 b q2,k57.aF b (by omega) q1,kS.aF b (by omega) q2]
    exact Kept.aF o4 b hb (fun h=>h)
   exact ⟨g8,CW_yield G e8,K.trans K8,R8,by omega,cV p D',(s8 d).trans g7',nodeD_ok _ _,hf⟩)
  ⟨hk _ (Kept.refl _ _),L0,Nat.le_refl _,D,Old.get k0 hd,hD,by rw [List.take_length]⟩
 obtain ⟨D',gd',dD',hf⟩ : ∃ D',h2.get d=some (aV D')∧gz D'∧(T.take 0).reverse.foldl (fun d x=>cV x d) D'=T.reverse.foldl (fun d x=>cV x d) D:=by
  obtain ⟨_,D',q1,q2,q3⟩:=(⟨g2,‹_›⟩:(h0.next≤h2.next)∧_)
  exact ⟨D',q1,q2,q3⟩
 obtain ⟨h3,e3,k3,n3⟩:=R2.fin (e0:=aO 66 x)
 have hv:ev (aO 66 x) (.tmp 59) = .func (.func 135) #[] #[ptr c 0]:=(ev_mkF (by decide) x).trans x59
 refine ⟨h3,?_,?_,?_⟩
 ·refine (code_range (v := .tuple #[]) (h2:=h2) (ps := #[60,61]) rng54 hv body135 ?_).trans e3
  rw [hA,hB]
  show CW 135 [.func (.yield h.next) #[] #[],ptr c 0] (h.aZ (.obj (.loop .ready none (aO 66 x) [60,61] ca cb)))=_
  rw [hh0]
  exact e2
 ·refine ⟨k3.n0.trans K2.n0,Nat.le_trans K2.next k3.next,fun b hb hq => ?_⟩
  rw [k3.aF b (by have:=K2.next;omega) (by omega),K2.aF b hb (fun q=>by rcases q with q|q;exact hq q;omega)]
 ·rw [k3.dX gd' (by omega)]
  rw [List.take_zero,List.reverse_nil,List.foldl_nil] at hf
  rw [hf]
  rfl
def cY (L:List ao):List Nat:=if L.length=0 then nilD else treeN cV (lvs L)
theorem pc_pos : ∀ (i:Nat),pc i=0→i=0:=by
 intro i
 induction i using Nat.strongRecOn with
 |_ i ih=>
  intro h
  rw [pc_step] at h
  by_cases c:i=0
  ·exact c
  ·have:=ih (i/2) (by omega) (by omega)
   omega
theorem treeG_ok : ∀ (f:Nat) (L:List (List Nat)),(∀ t∈L,gz t)→1≤L.length→L.length≤f→gz (treeG cV f L)
 | 0,L,_,h1,h2=>by omega
 |f+1,L,hd,h1,h2=>by
  rw [treeG_s]
  split
  ·match L,h1 with
   |d::_,_=>exact hd d List.mem_cons_self
  ·exact nodeD_ok _ _
theorem hJ (L:List ao):gz (cY L):=by
 unfold cY
 split
 ·exact nilD_ok
 ·have hl:(lvs L).length=L.length:=List.length_map _
  exact treeG_ok _ _ (fun t ht=>by obtain ⟨r,_,rfl⟩:=List.mem_map.1 ht;exact leafD_ok r) (by omega) (Nat.le_refl _)
theorem stk_ok : ∀ (M S:List (List Nat)) (i:Nat),(∀ t∈M,gz t)→(∀ t∈S,gz t) → ∀ t∈stk cV M S i,gz t
 | [],S,i,_,hS=>hS
 |d::M,S,i,hM,hS=>stk_ok M _ _ (fun t ht=>hM t (List.mem_cons_of_mem _ ht)) (push_ok cV (fun a b=>nodeD_ok a b) i i (hM d List.mem_cons_self) hS)
set_option maxRecDepth 100000 in
theorem r54 {h:ab} (hG:4≤h.n0) (hz:h.get 3=some bZ) {v:Value} {L:List ao} (hv:RSl h v L) (hval : ∀ r∈L,dK r=true) (hl:L.length≤1000000) :
  ∃ h',CW 54 [v] h=some (.agg (aV (cY L)).toArray,h')∧Old h h':=by
 obtain ⟨h1,z1,o1,g1,n1⟩:=fresh (List.replicate 32 (.int .u8 0)) h
 have hll:=hv.len
 have q0:=eql0 L.length
 by_cases c:L.length=0
 ·rw [decide_eq_true c] at q0
  obtain ⟨h2,e2,o2⟩:=r106 (h:=h1) (by rw [o1.n0];exact hG) (Old.get o1 hz)
  have dn:=aW nilD_ok
  have O2:=o1.trans o2
  obtain ⟨h3,e3,k3,g3,_,n3⟩:=aS (n:=32) (k':=aV nilD) (Old.get o2 g1) (by rw [O2.n0];exact h.ax) rfl dn.1 dn.2.2
  have L3:=bh g3 dn.1 dn.2.1
  have ev:cY L=nilD:=by unfold cY;rw [if_pos c]
  rw [ev]
  refine ⟨h3,aC is54 hG rfl ((t54_eq _ _ _).trans ?_),Old.bA O2 k3 (Nat.le_refl _)⟩
  unfold t54
  simp -implicitDefEqProofs only [z1,hll,q0,e2,e3,ad,af]
  exact cW results54 agg35 fK (show 2<66 by decide) _ L3
 ·rw [decide_eq_false c] at q0
  have hlv:(lvs L).length=L.length:=List.length_map _
  have hfin:=fin_stk cV L.length (lvs L) hlv (by omega) (by omega)
  have hsl:=stk_len cV (lvs L) [] 0 rfl
  rw [hlv,Nat.zero_add] at hsl
  have hso:=stk_ok (lvs L) [] 0 (fun t ht=>by obtain ⟨r,_,rfl⟩:=List.mem_map.1 ht;exact leafD_ok r) (fun t ht=>by cases ht)
  have ev:cY L=treeN cV (lvs L):=by unfold cY;rw [if_neg c]
  have key : ∃ o:Out,t54 CW v h=o ∧ ∃ h',o=some (.agg (aV (cY L)).toArray,h')∧Old h h':=by
   refine ⟨_,rfl,?_⟩
   unfold t54
   simp -implicitDefEqProofs only [z1,hll,q0,ad,af]
   refine bO (n:=66) (Q:=fun o:Out => ∃ h',o=some (.agg (aV (cY L)).toArray,h')∧Old h h') (tre2 (h:=h1) (by rw [o1.n0];exact hG) (Old.get o1 hz) (N:=h1.next) (d2:=h.next) rfl (hv.mono o1) hval hl rfl rfl rfl rfl rfl) ?_
   rintro _ y g ⟨rfl,y2,O,sk⟩
   simp -implicitDefEqProofs only [bB,b54_7,if_true,t54k54_5_eq]
   unfold t54k54_5
   generalize hSS:stk cV (lvs L) [] 0=S at *
   cases S with
   |nil=>
    have:=pc_pos L.length (by rw [←hsl];rfl)
    exact absurd this c
   |cons D S'=>
    rw [List.reverse_cons] at sk
    have hlen:=sk.len
    rw [List.length_append,List.length_singleton] at hlen
    have hS'l:S'.reverse.length≤1000000:=by
     have:=pc_le L.length
     rw [List.length_cons] at hsl
     rw [List.length_reverse]
     omega
    obtain ⟨P,gs⟩:=sk.pr
    obtain ⟨b,o,ix,dD,lp⟩:=PR.last P
    have Lp:=lp g (Kept.refl _ _)
    have cD:=aW dD
    have sb:bin Tryd.prog .sub 3 (ak (S'.reverse.length+1)) (.int .i64 1)=some (ak S'.reverse.length):=sub_n1 (by omega) (by omega)
    obtain ⟨g2,z2,o2,q2,m2⟩:=fresh (List.replicate 32 (.int .u8 0)) g
    obtain ⟨g3,e3,k3,q3,_,m3⟩:=aS (n:=32) (k':=aV D) q2 (by rw [o2.n0];exact g.ax) rfl cD.1 cD.2.2
    have o3:Old g g3:=Old.bA o2 k3 (Nat.le_refl _)
    obtain ⟨w,ew,skw,hbw⟩:=(sk.bS o3).pop
    obtain ⟨Pw,gw⟩:=skw.pr
    have hbl : ∀ b',stB w=some b'→b'<g.next:=fun b' hb'=>(sk.lt (hbw▸hb')).2
    obtain ⟨wa,wc,rfl⟩:=Pw.1
    have OO3:Old h g3:=(o1.trans O).trans o3
    obtain ⟨g4,e4,o4,q4,m4⟩:=r107 (h:=g3) (by rw [OO3.n0];exact hG) (a:=wa) (n:=S'.reverse.length) (c:=wc)
    have OO4:=OO3.trans o4
    simp -implicitDefEqProofs only [hlen,sb,ix,Lp,z2,e3,ew,e4,ad,af]
    have hz3 : ¬3=g.next:=by
     have:=h.aP hz
     have:=o1.next
     have:=O.next
     omega
    obtain ⟨g5,e5,k5,q5⟩:=tre3 (h:=g4) (by rw [OO4.n0];exact hG) (Old.get OO4 hz) (d:=g.next) (c:=g3.next) (w := .slice wa S'.reverse.length wc) (T:=S'.reverse) (D:=D) (x:=up y [(8,ptr g.next 0),(48,y 3),(49,y 3),(50,ak (S'.reverse.length+1)),(51,ak S'.reverse.length),(52,ptr b o),(53,.agg (aV D).toArray),(54,y 3),(55,y 3),(56,ak (S'.reverse.length+1)),(57,ak S'.reverse.length),(58,.slice wa S'.reverse.length wc),(59,.func (.func 135) #[] #[ptr g3.next 0])]) rfl rfl (Pw.mono o4) rfl hS'l (fun j b' o' hj e=>by
      have:stB (.slice wa S'.reverse.length wc)=some b':=by
       rcases skw.form with ⟨h0,_⟩|⟨bb,m,X,h1,_⟩
       ·rw [h0] at hj;exact absurd hj (Nat.not_lt_zero j)
       ·rw [h1] at e ⊢
        unfold df ak at e
        simp only at e
        split at e
        ·cases e;rfl
        ·cases e
      have:=hbl b' this
      omega) q4 (by have:=o3.next;have:=m2;omega) (Old.get o4 q3) dD (by rw [OO4.n0];have:=h.ax;have:=o1.next;have:=O.next;omega) hz3
    rw [e5]
    show ∃ h',k54_9 CW (aO 66 _) g5=some (.agg (aV (cY L)).toArray,h')∧Old h h'
    rw [t54k54_9_eq]
    unfold t54k54_9
    rw [List.reverse_reverse,hfin,←ev] at q5
    have ct:=aW (hJ L)
    have L8:=bh q5 ct.1 ct.2.1
    have y2':up y [(8,ptr g.next 0),(48,y 3),(49,y 3),(50,ak (S'.reverse.length+1)),(51,ak S'.reverse.length),(52,ptr b o),(53,.agg (aV D).toArray),(54,y 3),(55,y 3),(56,ak (S'.reverse.length+1)),(57,ak S'.reverse.length),(58,.slice wa S'.reverse.length wc),(59,.func (.func 135) #[] #[ptr g3.next 0])] 2=ptr h.next 0:=y2
    have y8':up y [(8,ptr g.next 0),(48,y 3),(49,y 3),(50,ak (S'.reverse.length+1)),(51,ak S'.reverse.length),(52,ptr b o),(53,.agg (aV D).toArray),(54,y 3),(55,y 3),(56,ak (S'.reverse.length+1)),(57,ak S'.reverse.length),(58,.slice wa S'.reverse.length wc),(59,.func (.func 135) #[] #[ptr g3.next 0])] 8=ptr g.next 0:=rfl
    have hne : ¬h.next=g.next:=by have:=O.next;omega
    obtain ⟨g6,e6,k6,q6,_,m6⟩:=aS (n:=32) (k':=aV (cY L)) (k5.dX (Old.get ((O.trans o3).trans o4) g1) hne) (by rw [k5.n0,OO4.n0];exact h.ax) rfl ct.1 ct.2.2
    have L6:=bh q6 ct.1 ct.2.1
    have hO5:Old h g5:=Old.bA OO4 k5 (by have:=o1.next;have:=O.next;omega)
    simp -implicitDefEqProofs only [y2',y8',L8,e6,ad,af]
    refine ⟨g6,?_,Old.bA hO5 k6 (Nat.le_refl _)⟩
    refine cW results54 agg35 fK (show 2<66 by decide) _ ?_
    rw [show up (up y [(8,ptr g.next 0),(48,y 3),(49,y 3),(50,ak (S'.reverse.length+1)),(51,ak S'.reverse.length),(52,ptr b o),(53,.agg (aV D).toArray),(54,y 3),(55,y 3),(56,ak (S'.reverse.length+1)),(57,ak S'.reverse.length),(58,.slice wa S'.reverse.length wc),(59,.func (.func 135) #[] #[ptr g3.next 0])]) [(65,.agg (aV (cY L)).toArray)] 2=ptr h.next 0 from y2']
    exact L6
  obtain ⟨o9,e,h',e',q⟩:=key
  exact ⟨h',aC is54 hG rfl ((t54_eq _ _ _).trans (e.trans e')),q⟩
end Go.Proofs.YtdnahgfgoajmcaaDoor

namespace Go.Proofs.YtdnahgfgoajmcaaDoor
open Go Go.Abs
attribute [local congr] aq
def rkL (r:ao):List Int := [(r.inc:Int),(r.num:Int),((bit r.held:Nat):Int),IntKind.wrap .u64 r.k,IntKind.wrap .u64 r.n]
def lexG:List Int→List Int→Bool
 |x::l,y::m=>if x=y then lexG l m else decide (x>y)
 |_,_=>false
theorem is99:cd Tryd.prog 99 Tryd.f99:=⟨by kernel_rfl,by kernel_rfl,by kernel_rfl,by kernel_rfl⟩
theorem is49:cd Tryd.prog 49 Tryd.f49:=⟨by kernel_rfl,by kernel_rfl,by kernel_rfl,by kernel_rfl⟩
theorem agg140:aggT Tryd.prog 140=some true:=by kernel_rfl
theorem siz140:cz Tryd.prog 140=some 5:=by kernel_rfl
theorem results99:Tryd.f99.results.toList = [.cell 2 140]:=by kernel_rfl
theorem results49:Tryd.f49.results.toList = [.tmp 4]:=by kernel_rfl
abbrev i64s (l:List Int):List Value:=l.map (.int .u64)
theorem u64s_ok (l:List Int):Abs.bJ (i64s l)=true∧aJ (i64s l)=true:=by
 induction l with
 |nil=>exact ⟨rfl,rfl⟩
 |cons x l ih=>exact ⟨ih.1,ih.2⟩
theorem bld_rank (a b c d e:Int):eW (List.replicate 5 (.int .u64 0)) [(0,1,.int .u64 a),(1,1,.int .u64 b),(2,1,.int .u64 c),(3,1,.int .u64 d),(4,1,.int .u64 e)]=some (.agg (i64s [a,b,c,d,e]).toArray):=rfl
set_option maxRecDepth 100000 in
theorem r99 {h:ab} (hG:4≤h.n0) {r:ao} (w:r.Wf) : ∃ h',CW 99 [.agg (recC r).toArray] h=some (.agg (i64s (rkL r)).toArray,h')∧Old h h':=by
 obtain ⟨h1,b1,o1,g1,n1⟩:=dG h w
 obtain ⟨h2,z2,o2,g2,n2⟩:=fresh (List.replicate 5 (.int .u64 0)) h1
 have A:=r_ld w (o2.get g1)
 have G2:4≤h2.n0:=by rw [o2.n0,o1.n0];exact hG
 have u:=u64s_ok (rkL r)
 obtain ⟨h3,e3,k3,g3,_,_⟩:=aS (n:=5) (k':=i64s (rkL r)) g2 (by rw [o2.n0];exact h1.ax) rfl rfl u.2
 have o3:Old h1 h3:=Old.bA o2 k3 (Nat.le_refl _)
 have l3:=bh (n:=5) g3 rfl u.1
 have bl:=bld_rank (r.inc:Int) (r.num:Int) ((bit r.held:Nat):Int) (IntKind.wrap .u64 r.k) (IntKind.wrap .u64 r.n)
 have e3:eT 5 (ptr h1.next 0) (.agg (i64s [(r.inc:Int),(r.num:Int),((bit r.held:Nat):Int),IntKind.wrap .u64 r.k,IntKind.wrap .u64 r.n]).toArray) h2=some (undef,h3):=e3
 refine ⟨h3,aC is99 hG rfl ((t99_eq _ _ _).trans ?_),o1.trans o3⟩
 unfold t99
 simp -implicitDefEqProofs only [b1,z2,aB,Nat.zero_add,A.l34,A.l35,A.l36,A.l37,A.l38,r97 G2,c7,bl,e3,chkI,Bool.and_self,Bool.and_true,ad,af]
 exact cW results99 agg140 siz140 (show 2<17 by decide) _ l3
theorem idx5 {b i:Nat} (hi:i<5):bI 5 1 (ptr b 0) (ak i)=some (ptr b i):=by
 unfold bI
 simp only [ak]
 rw [if_pos (by omega),Int.toNat_natCast,Nat.mul_one,aB,Nat.zero_add]
def newerR (a b:ao):Bool:=dK a&&(dK b&&(decide (keyB a=keyB b)&&lexG (rkL a) (rkL b)))
set_option maxRecDepth 100000 in
theorem r49 {h:ab} (hG:4≤h.n0) (hz:GZ h) {a b:ao} (wa:a.Wf) (wb:b.Wf) : ∃ h',CW 49 [.agg (recC a).toArray,.agg (recC b).toArray] h=some (.bool (newerR a b),h')∧Old h h':=by
 obtain ⟨h1,b1,o1,g1,n1⟩:=dG h wa
 obtain ⟨h2,b2,o2,g2,n2⟩:=dG h1 wb
 have ca:=bg wa
 have cb:=bg wb
 have LA : ∀ g,Old h2 g→cT 39 (ptr h.next 0) g=some (.agg (recC a).toArray,g):=fun g o=>bh (Old.get o (o2.get g1)) ca.1 ca.2.1
 have LB : ∀ g,Old h2 g→cT 39 (ptr h1.next 0) g=some (.agg (recC b).toArray,g):=fun g o=>bh (Old.get o g2) cb.1 cb.2.1
 have O2:=o1.trans o2
 have G2 : ∀ g,Old h2 g→4≤g.n0:=fun g o=>by rw [o.n0,O2.n0];exact hG
 have Z2 : ∀ g,Old h2 g→GZ g:=fun g o=>hz.bS (O2.trans o)
 have R2:Old h2 h2:=Kept.refl _ _
 have chkA : ∀ (r:ao) (g:ab),r.Wf→bN true (some (.agg (recC r).toArray,g)) (.agg (recC r).toArray)=true:=fun r g w=>chk_agg _ _ (cq w).kinds
 obtain ⟨h3,e3,o3⟩:=r48 (h:=h2) (G2 _ R2) (Z2 _ R2) wa
 unfold newerR
 cases va:dK a with
 |false=>
  rw [va] at e3
  refine ⟨h3,aC is49 hG rfl ((t49_eq _ _ _ _).trans ?_),O2.trans o3⟩
  unfold t49
  simp -implicitDefEqProofs only [b1,b2,LA h2 R2,e3,aX,aY,fs,sf,beq_self_eq_true,ay,aw,chkF,Bool.false_eq_true,if_false,if_true,Bool.not_true,Bool.not_false,Bool.and_true,Bool.and_self,Bool.false_and,ad,af,show (some true==some false)=false from rfl]
 |true=>
  rw [va] at e3
  obtain ⟨h4,e4,o4⟩:=r48 (h:=h3) (G2 _ o3) (Z2 _ o3) wb
  have O4:=o3.trans o4
  cases vb:dK b with
  |false=>
   rw [vb] at e4
   refine ⟨h4,aC is49 hG rfl ((t49_eq _ _ _ _).trans ?_),O2.trans O4⟩
   unfold t49
   simp -implicitDefEqProofs only [b1,b2,LA h2 R2,e3,LB h3 o3,e4,aX,aY,fs,sf,beq_self_eq_true,ay,aw,chkF,Bool.false_eq_true,if_false,if_true,Bool.not_true,Bool.not_false,Bool.and_true,Bool.and_self,Bool.false_and,Bool.true_and,ad,af,show (some true==some false)=false from rfl]
  |true=>
   rw [vb] at e4
   obtain ⟨h5,e5,o5⟩:=r59 (h:=h4) (G2 _ O4) wa
   have O5:=O4.trans o5
   obtain ⟨h6,e6,o6⟩:=r59 (h:=h5) (G2 _ O5) wb
   have O6:=O5.trans o6
   have q6:=(str_dec (keyB_bys wa) (keyB_bys wb)).2
   by_cases vc:keyB a=keyB b
   ·rw [decide_eq_true vc] at q6 ⊢
    obtain ⟨h7,e7,o7⟩:=r99 (h:=h6) (G2 _ O6) wa
    have O7:=O6.trans o7
    obtain ⟨h8,e8,o8⟩:=r99 (h:=h7) (G2 _ O7) wb
    have O8:=O7.trans o8
    obtain ⟨h9,z9,o9,g9,n9⟩:=fresh (List.replicate 5 (.int .u64 0)) h8
    obtain ⟨h10,z10,o10,g10,n10⟩:=fresh (List.replicate 5 (.int .u64 0)) h9
    have p9:h9.n0≤h8.next:=by rw [o9.n0];exact h8.ax
    have p10:h10.n0≤h9.next:=by rw [o10.n0];exact h9.ax
    have ua:=u64s_ok (rkL a)
    have ub:=u64s_ok (rkL b)
    obtain ⟨h11,e11,k11,g11,_,m11⟩:=aS (n:=5) (k':=i64s (rkL a)) (o10.get g9) (by rw [o10.n0];exact p9) rfl rfl ua.2
    have g10':h11.get h9.next=some (List.replicate 5 (.int .u64 0)):=Kept.dX k11 g10 (by omega)
    obtain ⟨h12,e12,k12,g12,_,m12⟩:=aS (n:=5) (k':=i64s (rkL b)) g10' (by rw [k11.n0];exact p10) rfl rfl ub.2
    have g11':h12.get h8.next=some (i64s (rkL a)):=Kept.dX k12 g11 (by omega)
    have O9:Old h8 h11:=Old.bA (o9.trans o10) k11 (Nat.le_refl _)
    have O12:Old h8 h12:=Old.bA O9 k12 (by omega)
    refine ⟨h12,aC is49 hG rfl ((t49_eq _ _ _ _).trans ?_),(O2.trans O8).trans O12⟩
    unfold t49
    simp -implicitDefEqProofs only [b1,b2,LA h2 R2,e3,LB h3 o3,e4,LA h4 O4,e5,LB h4 O4,LB h5 O5,e6,q6,LA h6 O6,e7,LB h6 O6,LB h7 O7,e8,z9,z10,e11,e12,chkA b _ wb,aX,aY,fs,sf,beq_self_eq_true,ay,aw,chkF,Bool.false_eq_true,if_false,if_true,Bool.not_true,Bool.not_false,Bool.and_true,Bool.and_self,Bool.false_and,Bool.true_and,ad,af]
    refine bO (n:=45) (fin:=fun ex y g=>g=h12∧((ex = .ret∧y 4 = .bool (lexG (rkL a) (rkL b)))∨(ex = .exit 0∧lexG (rkL a) (rkL b)=false))) (Q:=fun o:Out=>o=some (Value.bool (lexG (rkL a) (rkL b)),h12))
     (bP (t49l49_111010_eq CW) (Inv:=fun k y g => ∃ i,i+k=5∧y 5=ptr h8.next 0∧y 6=ptr h9.next 0∧y 7=ak i∧g=h12∧lexG (rkL a) (rkL b)=lexG ((rkL a).drop i) ((rkL b).drop i)) ?_ 5 (by have:rounds=18446744073709551616:=rfl;omega) ⟨0,Nat.zero_add _,rfl,rfl,rfl,rfl,rfl⟩) ?_
    ·rintro k y g' ⟨i,hik,y5,y6,y7,rfl,ho⟩
     unfold t49l49_111010
     have lss5:bin Tryd.prog .lss 3 (ak i) (.int .i64 5)=some (.bool (decide (i<5))):=lss3 i 5
     simp -implicitDefEqProofs only [y5,y6,y7,lss5,ad,af]
     by_cases hi:i<5
     ·have hla:(rkL a).length=5:=rfl
      have hlb:(rkL b).length=5:=rfl
      have ea:(rkL a)[i]? = some (rkL a)[i]:=List.getElem?_eq_getElem (by omega)
      have eb:(rkL b)[i]? = some (rkL b)[i]:=List.getElem?_eq_getElem (by omega)
      have da:ld1 (ptr h8.next i) g'=some (.int .u64 (rkL a)[i],g'):=aQ g11' (by rw [List.getElem?_map,ea];rfl) rfl
      have db:ld1 (ptr h9.next i) g'=some (.int .u64 (rkL b)[i],g'):=aQ g12 (by rw [List.getElem?_map,eb];rfl) rfl
      have dra:(rkL a).drop i=(rkL a)[i]::(rkL a).drop (i+1):=List.drop_eq_getElem_cons (by omega)
      have drb:(rkL b).drop i=(rkL b)[i]::(rkL b).drop (i+1):=List.drop_eq_getElem_cons (by omega)
      by_cases he:(rkL a)[i]=(rkL b)[i]
      ·have hb:((rkL a)[i] != (rkL b)[i])=false:=by rw [he];simp
       simp -implicitDefEqProofs only [decide_eq_true hi,idx5 hi,da,db,a7,hb,y7,fc (show i+1≤9223372036854775807 by omega),ad,af]
       refine dU.next (k-1) (by omega) ⟨i+1,by omega,y5,y6,rfl,rfl,?_⟩
       rw [ho,dra,drb,lexG,if_pos he]
      ·have hb:((rkL a)[i] != (rkL b)[i])=true:=by simpa using he
       simp -implicitDefEqProofs only [decide_eq_true hi,idx5 hi,da,db,a7,bp,hb,ad,af]
       refine dU.ret ⟨rfl,.inl ⟨rfl,?_⟩⟩
       rw [ho,dra,drb,lexG,if_neg he]
       rfl
     ·simp -implicitDefEqProofs only [decide_eq_false hi,ad,af]
      refine dU.out 0 ⟨rfl,.inr ⟨rfl,?_⟩⟩
      rw [ho,List.drop_eq_nil_of_le (by show 5≤i;omega)]
      rfl
    ·rintro ex z g' ⟨rfl,⟨rfl,z2⟩|⟨rfl,hz⟩⟩
     ·rw [endL_ret,res_one results49 (by decide),z2]
     ·simp -implicitDefEqProofs only [bB,b49_9,if_true,t49k49_7_eq]
      unfold t49k49_7
      rw [hz]
      rfl
   ·rw [decide_eq_false vc] at q6 ⊢
    refine ⟨h6,aC is49 hG rfl ((t49_eq _ _ _ _).trans ?_),O2.trans O6⟩
    unfold t49
    simp -implicitDefEqProofs only [b1,b2,LA h2 R2,e3,LB h3 o3,e4,LA h4 O4,e5,LB h4 O4,LB h5 O5,e6,q6,chkA b _ wb,aX,aY,fs,sf,beq_self_eq_true,ay,aw,chkF,Bool.false_eq_true,if_false,if_true,Bool.not_true,Bool.not_false,Bool.and_true,Bool.and_self,Bool.false_and,Bool.true_and,ad,af]
end Go.Proofs.YtdnahgfgoajmcaaDoor

namespace Go.Proofs.YtdnahgfgoajmcaaDoor
open Go Go.Abs
theorem lex_or : ∀ (xs ys:List Int),xs.length=ys.length→decide (orL (List.zipWith gx xs ys)>0)=lexG xs ys
 | [],[],_=>rfl
 |x::xs,y::ys,h=>by
  have ih:=lex_or xs ys (by simpa using h)
  rw [List.zipWith_cons_cons,orL,lexG]
  by_cases e:x=y
  ·subst e
   rw [if_pos rfl,if_pos (by unfold gx;simp),ih]
  ·have hc:gx x y≠0:=by
    unfold gx
    split
    ·decide
    ·split
     ·decide
     ·omega
   rw [if_neg e,if_neg hc]
   congr 1
   unfold gx
   split
   ·simp;omega
   ·split
    ·simp;omega
    ·simp;omega
 | [],_::_,h=>by simp at h
 |_::_,[],h=>by simp at h
theorem newer_same {a b:ao} (wa:a.Wf) (wb:b.Wf):newerB a b=newerR a b:=by
 unfold newerB newerR
 cases va:dK a with
 |false=>rfl
 |true=>
  cases vb:dK b with
  |false=>rfl
  |true=>
   obtain ⟨a1,a2,a3,a4,a5,a6⟩:=rec_small va
   obtain ⟨b1,b2,b3,b4,b5,b6⟩:=rec_small vb
   have hk:atB a b=decide (keyB a=keyB b):=by
    have ia:=i8_of a1 (by omega)
    have ib:=i8_of b1 (by omega)
    rw [Bool.eq_iff_iff,decide_eq_true_eq]
    unfold atB keyB
    simp only [Bool.and_eq_true,decide_eq_true_eq]
    constructor
    ·rintro ⟨h1,h2,h3⟩
     rw [h1,h2,h3]
    ·intro h
     obtain ⟨h1,h2⟩:=List.append_inj h (by simp [wa.obj.1,wb.obj.1])
     obtain ⟨h3,h4⟩:=List.append_inj h1 rfl
     simp only [List.cons.injEq,and_true] at h2 h3
     exact ⟨h3,h4,by omega⟩
   have hr:decide (cmpR a b>0)=lexG (rkL a) (rkL b):=by
    rw [←lex_or (rkL a) (rkL b) rfl]
    have w1:IntKind.wrap .u64 a.k=a.k:=wrap_u64 (by omega) (by omega)
    have w2:IntKind.wrap .u64 a.n=a.n:=wrap_u64 (by omega) (by omega)
    have w3:IntKind.wrap .u64 b.k=b.k:=wrap_u64 (by omega) (by omega)
    have w4:IntKind.wrap .u64 b.n=b.n:=wrap_u64 (by omega) (by omega)
    have hb:(if a.held=b.held then (0:Int) else if a.held then 1 else -1)=gx ((bit a.held:Nat):Int) ((bit b.held:Nat):Int):=by
     cases a.held<;>cases b.held<;>rfl
    unfold cmpR rkL
    rw [hb,w1,w2,w3,w4]
    rfl
   rw [hk,hr]
end Go.Proofs.YtdnahgfgoajmcaaDoor

namespace Go.Proofs.YtdnahgfgoajmcaaDoor
open Go Go.Abs
attribute [local congr] aq
end Go.Proofs.YtdnahgfgoajmcaaDoor

namespace Go.Proofs.YtdnahgfgoajmcaaDoor
open Go Go.Abs
attribute [local congr] aq
end Go.Proofs.YtdnahgfgoajmcaaDoor

namespace Go.Proofs.YtdnahgfgoajmcaaDoor
open Go Go.Abs
attribute [local congr] aq
end Go.Proofs.YtdnahgfgoajmcaaDoor

namespace Go.Proofs.YtdnahgfgoajmcaaDoor
open Go Go.Abs
attribute [local congr] aq
end Go.Proofs.YtdnahgfgoajmcaaDoor

namespace Go.Proofs.YtdnahgfgoajmcaaDoor
open Go Go.Abs
theorem treeV_one (r:ao):cY [r]=leafD r:=by
 unfold cY lvs
 rw [if_neg (by rw [List.length_singleton];decide),List.map_cons,List.map_nil,treeN_one]
theorem treeV_two {M:List ao} (h:2≤M.length):cY M=nodeR (cY (M.take (dj M.length))) (cY (M.drop (dj M.length))):=by
 have a1:=half_pos M.length
 have a2:=half_lt h
 have hl:(lvs M).length=M.length:=List.length_map _
 have e : ∀ K:List ao,K.length≠0→cY K=treeN cV (lvs K):=fun K hK=>by unfold cY;rw [if_neg hK]
 rw [e M (by omega),e (M.take (dj M.length)) (by rw [List.length_take];omega),e (M.drop (dj M.length)) (by rw [List.length_drop];omega),treeN_two cV (L:=lvs M) (by omega),hl,node_same]
 unfold lvs
 rw [←List.map_take,←List.map_drop]
end Go.Proofs.YtdnahgfgoajmcaaDoor

namespace Go.Proofs.YtdnahgfgoajmcaaDoor
open Go Go.Abs
attribute [local congr] aq
theorem is55:cd Tryd.prog 55 Tryd.f55:=⟨by kernel_rfl,by kernel_rfl,by kernel_rfl,by kernel_rfl⟩
theorem results55:Tryd.f55.results.toList = [.cell 2 35]:=by kernel_rfl
set_option maxRecDepth 100000 in
theorem r55 : ∀ (n:Nat) {h:ab},4≤h.n0→GR h→GZ h → ∀ {L:List ao} {v:Value},L.length=n→n≤1048576→RSl h v L→gR v→(∀ r∈L,dK r=true) →
  ∃ h',CW 55 [v] h=some (.agg (aV (cY L)).toArray,h')∧Old h h':=by
 intro n
 induction n using Nat.strongRecOn with
 |_ n ih=>
  intro h hG hr hz L v hL hn hv hg hval
  obtain ⟨h1,z1,o1,g1,n1⟩:=fresh (List.replicate 32 (.int .u8 0)) h
  have hll:=hv.len
  rw [hL] at hll
  have q0:=eql0 n
  have q1:=eql1 n
  by_cases c:n=0
  ·rw [decide_eq_true c] at q0
   obtain ⟨h2,e2,o2⟩:=r108 (h:=h1) (by rw [o1.n0];exact hG) (hr.bS o1) (a:=none) (n:=0) (c:=0) (l := []) rfl (by decide)
   have ev:cY L=sumR H0 []:=by
    unfold cY
    rw [if_pos (by omega)]
    exact sum_same []
   rw [←ev] at e2
   have e2:CW 108 [.slice none 0 0] h1=some (.agg (aV (cY L)).toArray,h2):=e2
   have dn:=aW (hJ L)
   have O2:=o1.trans o2
   obtain ⟨h3,e3,k3,g3,_,n3⟩:=aS (n:=32) (k':=aV (cY L)) (Old.get o2 g1) (by rw [O2.n0];exact h.ax) rfl dn.1 dn.2.2
   have L3:=bh g3 dn.1 dn.2.1
   refine ⟨h3,aC is55 hG rfl ((t55_eq _ _ _).trans ?_),Old.bA O2 k3 (Nat.le_refl _)⟩
   unfold t55
   simp -implicitDefEqProofs only [z1,hll,q0,e2,e3,ad,af]
   exact cW results55 agg35 fK (show 2<27 by decide) _ L3
  ·rw [decide_eq_false c] at q0
   by_cases c1:n=1
   ·rw [decide_eq_true c1] at q1
    obtain ⟨b,o,ix,wr,mr,lp⟩:=hv.at (j:=0) (by omega)
    have vr:=hval _ mr
    have ev:cY L=leafR (L.getD 0 ao.z):=by
     match L,hL with
     | [r],_=>rw [treeV_one,leaf_same,List.getD_cons_zero]
     | [],hL=>exact absurd hL.symm c
     |_::_::_,hL=>rw [List.length_cons,List.length_cons] at hL;omega
    generalize L.getD 0 ao.z=r at *
    have L1:=lp h1 o1
    obtain ⟨h2,e2,o2⟩:=r72 (h:=h1) (by rw [o1.n0];exact hG) (hr.bS o1) (hz.bS o1) wr vr
    rw [←ev] at e2
    have dn:=aW (hJ L)
    have O2:=o1.trans o2
    obtain ⟨h3,e3,k3,g3,_,n3⟩:=aS (n:=32) (k':=aV (cY L)) (Old.get o2 g1) (by rw [O2.n0];exact h.ax) rfl dn.1 dn.2.2
    have L3:=bh g3 dn.1 dn.2.1
    have ix:df 39 v (.int .i64 0)=some (ptr b o):=ix
    refine ⟨h3,aC is55 hG rfl ((t55_eq _ _ _).trans ?_),Old.bA O2 k3 (Nat.le_refl _)⟩
    unfold t55
    simp -implicitDefEqProofs only [z1,hll,q0,q1,ix,L1,e2,e3,ad,af]
    exact cW results55 agg35 fK (show 2<27 by decide) _ L3
   ·rw [decide_eq_false c1] at q1
    have hh1:=half_pos n
    have hh2:=half_lt (n:=n) (by omega)
    have ev:=treeV_two (M:=L) (by omega)
    rw [hL] at ev
    obtain ⟨wt,et,rt,gt⟩:=hv.take hg (k:=dj n) (by omega)
    obtain ⟨wd,ed,rd,gd⟩:=hv.drop hg (k:=dj n) (by omega)
    have e109:=r109 (h:=h1) (by rw [o1.n0];exact hG) hn
    obtain ⟨h2,e2,o2⟩:=ih (dj n) (by omega) (h:=h1) (by rw [o1.n0];exact hG) (hr.bS o1) (hz.bS o1) (L:=L.take (dj n)) (v:=wt) (by rw [List.length_take];omega) (by omega) (rt.mono o1) gt (fun r hr=>hval r (List.mem_of_mem_take hr))
    have O2:=o1.trans o2
    obtain ⟨h3,e3,o3⟩:=ih (n-dj n) (by omega) (h:=h2) (by rw [O2.n0];exact hG) (hr.bS O2) (hz.bS O2) (L:=L.drop (dj n)) (v:=wd) (by rw [List.length_drop];omega) (by omega) (rd.mono O2) gd (fun r hr=>hval r (List.mem_of_mem_drop hr))
    have O3:=O2.trans o3
    obtain ⟨h4,e4,o4⟩:=r110 (h:=h3) (by rw [O3.n0];exact hG) (hr.bS O3) (hJ (L.take (dj n))) (hJ (L.drop (dj n)))
    rw [←ev] at e4
    have O4:=O3.trans o4
    have dn:=aW (hJ L)
    obtain ⟨h5,e5,k5,g5,_,n5⟩:=aS (n:=32) (k':=aV (cY L)) (Old.get ((o2.trans o3).trans o4) g1) (by rw [O4.n0];exact h.ax) rfl dn.1 dn.2.2
    have L5:=bh g5 dn.1 dn.2.1
    refine ⟨h5,aC is55 hG rfl ((t55_eq _ _ _).trans ?_),Old.bA O4 k5 (Nat.le_refl _)⟩
    unfold t55
    simp -implicitDefEqProofs only [z1,hll,q0,q1,e109,et,e2,ed,e3,e4,e5,ad,af]
    exact cW results55 agg35 fK (show 2<27 by decide) _ L5
end Go.Proofs.YtdnahgfgoajmcaaDoor

