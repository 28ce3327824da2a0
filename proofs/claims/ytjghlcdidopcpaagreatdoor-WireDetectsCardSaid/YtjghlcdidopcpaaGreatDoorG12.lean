/-
  A part of the proof, spaces and names shortened by a program (a claim may hold 1,500,000 bytes).
  Conditions: as each theorem states.
-/
import Derived.Test.YtjghlcdidopcpaaGreatDoorG11
namespace Go.Proofs.YtjghlcdidopcpaaGreatDoor
open Go Go.Abs
attribute [local congr] bo
theorem is35:bG Tryz.prog 35 Tryz.f35:=⟨by kernel_rfl,by kernel_rfl,by kernel_rfl,by kernel_rfl⟩
theorem is19:bG Tryz.prog 19 Tryz.f19:=⟨by kernel_rfl,by kernel_rfl,by kernel_rfl,by kernel_rfl⟩
theorem eN (a b:Value):bn (.tuple #[a,b]) 0=some a:=rfl
theorem eP (a b:Value):bn (.tuple #[a,b]) 1=some b:=rfl
theorem fresh (cs:List Value) (h:ai) : ∃ h2,eQ cs h=some (ptr h.next 0,h2)∧Old h h2∧h2.get h.next=some cs∧h2.next=h.next+1:=
 ⟨_,newC_eq _ _,Kept.alloc _ _ _,by rw [ai.aN,if_pos rfl],rfl⟩
theorem stored {h:ai} {b o:Nat} {k:dk} {v:Value} (g:h.get b=some k) (hn:h.n0≤b) (ho:o<k.length) (hc:v.cells = #[v]) (hv:v.oneCell'=true) : ∃ h2,cv 1 (ptr b o) v h=some (undef,h2)∧Kept h h2 (· = b)∧h2.get b=some (k.set o v)∧h2.n0≤b∧h2.next=h.next:=
 ⟨_,stN1_at g ho hn hc hv,Kept.set hn g (.inr rfl),ai.bW hn g _,hn,rfl⟩
theorem cj {h:ai} {b n:Nat} {k k':dk} (g:h.get b=some k) (hn:h.n0≤b) (hl:k.length=n) (hl':k'.length=n) (ho:aR k'=true) : ∃ h2,cv n (ptr b 0) (.agg k'.toArray) h=some (undef,h2)∧Kept h h2 (· = b)∧h2.get b=some k'∧h2.n0≤b∧h2.next=h.next:=
 ⟨_,stN_whole g hn hl hl' ho,Kept.set hn g (.inr rfl),ai.bW hn g _,hn,rfl⟩
theorem fmC_at : ∀ k,k<14→(formsC.drop (k*5)).take 5=fmC k:=fun k hk=>by
 match k,hk with
 | 0,_=>rfl
 | 1,_=>rfl
 | 2,_=>rfl
 | 3,_=>rfl
 | 4,_=>rfl
 | 5,_=>rfl
 | 6,_=>rfl
 | 7,_=>rfl
 | 8,_=>rfl
 | 9,_=>rfl
 | 10,_=>rfl
 | 11,_=>rfl
 | 12,_=>rfl
 | 13,_=>rfl
theorem fmC_not {k:Nat} (h:kindOk k=false):fmC k = [(.string ⟨#[]⟩),.nilFunc,.nilFunc,.nilFunc,.nilFunc]:=by
 by_cases h0:k=0
 ·subst h0;rfl
 ·by_cases h1:14≤k
  ·obtain ⟨n,rfl⟩ : ∃ n,k=n+14:=⟨k-14,by omega⟩
   rfl
  ·exfalso
   have:kindOk k=true:=by
    unfold kindOk
    rw [Nat.ble_eq_true_of_le (by omega),Nat.ble_eq_true_of_le (by omega)];rfl
   rw [this] at h;cases h
theorem fmC_ok (k:Nat):Abs.bq (fmC k)=true∧aR (fmC k)=true∧(fmC k).length=5:=by
 have h:=fun v (hv:v∈fmC k)=>fmC_flat k v hv
 have key : ∀ v,flat v=true→isHole v=false∧v.oneCell'=true:=fun v hv=>by
  cases v<;>first|exact ⟨rfl,rfl⟩|(simp [flat] at hv)|skip
  all_goals first|exact ⟨rfl,rfl⟩|skip
  ·rename_i a;cases a<;>first|exact ⟨rfl,rfl⟩|simp [] at hv
 refine ⟨?_,?_,rfl⟩
 ·unfold Abs.bq
  rw [List.all_eq_true]
  exact fun v hv=>by rw [(key v (h v hv)).1];rfl
 ·unfold aR
  rw [List.all_eq_true]
  exact fun v hv=>(key v (h v hv)).2
theorem formsC_ok:aR formsC=true∧formsC.length=70:=by
 refine ⟨?_,rfl⟩
 unfold aR
 rw [List.all_eq_true]
 intro v hv
 obtain ⟨k,_,hk⟩:=List.mem_flatMap.1 hv
 have:=(fmC_ok k).2.1
 unfold aR at this
 rw [List.all_eq_true] at this
 exact this v hk
theorem r35 {h:ai} (hG:4≤h.n0) {k:Nat} (hk:k<256) : ∃ h',CW 35 [.int .u8 (k:Int)] h=some (.tuple #[.agg (fmC k).toArray,.bool (kindOk k)],h')∧Old h h':=by
 have hr:Tryz.f35.results.toList = [.cell 2 75,.tmp 3]:=by kernel_rfl
 have a75:aggT Tryz.prog 75=some true:=by kernel_rfl
 have s75:cr Tryz.prog 75=some 5:=by kernel_rfl
 obtain ⟨h1,z1,o1,g1,n1⟩:=fresh [(.string ⟨#[]⟩),.nilFunc,.nilFunc,.nilFunc,.nilFunc] h
 have f77:=r77 h1
 obtain ⟨h2,z2,o2,g2,n2⟩:=fresh [(.string ⟨#[]⟩),.nilFunc,.nilFunc,.nilFunc,.nilFunc,(.string ⟨#[]⟩),.nilFunc,.nilFunc,.nilFunc,.nilFunc,(.string ⟨#[]⟩),.nilFunc,.nilFunc,.nilFunc,.nilFunc,(.string ⟨#[]⟩),.nilFunc,.nilFunc,.nilFunc,.nilFunc,(.string ⟨#[]⟩),.nilFunc,.nilFunc,.nilFunc,.nilFunc,(.string ⟨#[]⟩),.nilFunc,.nilFunc,.nilFunc,.nilFunc,(.string ⟨#[]⟩),.nilFunc,.nilFunc,.nilFunc,.nilFunc,(.string ⟨#[]⟩),.nilFunc,.nilFunc,.nilFunc,.nilFunc,(.string ⟨#[]⟩),.nilFunc,.nilFunc,.nilFunc,.nilFunc,(.string ⟨#[]⟩),.nilFunc,.nilFunc,.nilFunc,.nilFunc,(.string ⟨#[]⟩),.nilFunc,.nilFunc,.nilFunc,.nilFunc,(.string ⟨#[]⟩),.nilFunc,.nilFunc,.nilFunc,.nilFunc,(.string ⟨#[]⟩),.nilFunc,.nilFunc,.nilFunc,.nilFunc,(.string ⟨#[]⟩),.nilFunc,.nilFunc,.nilFunc,.nilFunc] h1
 have l70:([(.string ⟨#[]⟩),.nilFunc,.nilFunc,.nilFunc,.nilFunc,(.string ⟨#[]⟩),.nilFunc,.nilFunc,.nilFunc,.nilFunc,(.string ⟨#[]⟩),.nilFunc,.nilFunc,.nilFunc,.nilFunc,(.string ⟨#[]⟩),.nilFunc,.nilFunc,.nilFunc,.nilFunc,(.string ⟨#[]⟩),.nilFunc,.nilFunc,.nilFunc,.nilFunc,(.string ⟨#[]⟩),.nilFunc,.nilFunc,.nilFunc,.nilFunc,(.string ⟨#[]⟩),.nilFunc,.nilFunc,.nilFunc,.nilFunc,(.string ⟨#[]⟩),.nilFunc,.nilFunc,.nilFunc,.nilFunc,(.string ⟨#[]⟩),.nilFunc,.nilFunc,.nilFunc,.nilFunc,(.string ⟨#[]⟩),.nilFunc,.nilFunc,.nilFunc,.nilFunc,(.string ⟨#[]⟩),.nilFunc,.nilFunc,.nilFunc,.nilFunc,(.string ⟨#[]⟩),.nilFunc,.nilFunc,.nilFunc,.nilFunc,(.string ⟨#[]⟩),.nilFunc,.nilFunc,.nilFunc,.nilFunc,(.string ⟨#[]⟩),.nilFunc,.nilFunc,.nilFunc,.nilFunc]:dk).length=70:=rfl
 have p2:h2.n0≤h1.next:=by rw [o2.n0];exact h1.aQ
 obtain ⟨h3,s2,k3,g3,-,-⟩:=cj (n:=70) g2 p2 l70 formsC_ok.2 formsC_ok.1
 have g31:=k3.fj (Old.get o2 g1) (by omega)
 have O3:Old h h3:=(o1.trans o2).dw k3 (fun d hd e=>by omega)
 have p3:h3.n0≤h.next:=by rw [O3.n0];exact h.aQ
 have c:=fmC_ok k
 obtain ⟨h4,s4,k4,g4,-,-⟩:=cj (n:=5) (k':=fmC k) g31 p3 rfl c.2.2 c.2.1
 have O4:Old h h4:=O3.dw k4 (fun d hd e=>by omega)
 have l4:cq 5 (ptr h.next 0) h4=some (.agg (fmC k).toArray,h4):=ldN_mid g4 (A := []) (B:=fmC k) (C := []) (by simp) rfl c.2.2 c.1
 have hw:IntKind.wrap .i64 ((k:Nat):Int)=(k:Int):=wrap_i64 (by omega) (by omega)
 refine ⟨h4,ay is35 hG rfl ((t35_eq _ _ _).trans ?_),O4⟩
 unfold t35
 by_cases h0:k<1
 ·have q0:decide ((k:Int)<1)=true:=decide_eq_true (by omega)
  have hn:kindOk k=false:=by
   obtain rfl:k=0:=by omega
   rfl
  have bz:cI [(.string ⟨#[]⟩),.nilFunc,.nilFunc,.nilFunc,.nilFunc] []=some (.agg (fmC k).toArray):=by rw [fmC_not hn];rfl
  simp -implicitDefEqProofs only [z1, f77, z2, s2, q0, bz, s4, ah, ao, ar, sf, aj, if_true, aF]
  rw [bj hr a75 s75 (show 2<17 by decide) (show 3<17 by decide) _ l4,hn]
  rfl
 ·have q0:decide ((k:Int)<1)=false:=decide_eq_false (by omega)
  by_cases h1':14≤k
  ·have q1:decide ((k:Int)≥14)=true:=decide_eq_true (by omega)
   have hn:kindOk k=false:=by
    unfold kindOk
    rw [show Nat.ble k 13=false by
     cases hb:Nat.ble k 13 with
     |false=>rfl
     |true=>have:=Nat.le_of_ble_eq_true hb;omega,Bool.and_false]
   have bz:cI [(.string ⟨#[]⟩),.nilFunc,.nilFunc,.nilFunc,.nilFunc] []=some (.agg (fmC k).toArray):=by rw [fmC_not hn];rfl
   simp -implicitDefEqProofs only [z1, f77, z2, s2, q0, ba, hw, q1, bz, s4, ah, ao, ar, beq_self_eq_true, ak, Bool.false_eq_true, if_false, aJ, aF]
   rw [bj hr a75 s75 (show 2<17 by decide) (show 3<17 by decide) _ l4,hn]
   rfl
  ·have q1:decide ((k:Int)≥14)=false:=decide_eq_false (by omega)
   have hy:kindOk k=true:=by
    unfold kindOk
    rw [Nat.ble_eq_true_of_le (by omega),Nat.ble_eq_true_of_le (by omega)];rfl
   have ix:idxA 14 5 (ptr h1.next 0) (.int .u8 (k:Int))=some (ptr h1.next (k*5)):=by
    unfold idxA
    simp only
    rw [if_pos (by omega),Int.toNat_natCast,aq,Nat.zero_add]
   have l5:cq 5 (ptr h1.next (k*5)) h3=some (.agg (fmC k).toArray,h3):=by
    have:=ldN_at (o:=k*5) (n:=5) g3 (by rw [formsC_ok.2];omega) (by rw [fmC_at k (by omega)];exact c.1)
    rw [fmC_at k (by omega)] at this
    exact this
   simp -implicitDefEqProofs only [z1, f77, z2, s2, q0, ba, hw, q1, ix, l5, s4, ah, ao, ar, beq_self_eq_true, ak, Bool.false_eq_true, if_false, aJ, aF]
   rw [bj hr a75 s75 (show 2<17 by decide) (show 3<17 by decide) _ l4,hy]
   rfl
def chkB (k:Nat) (m:bc):Bool:=match k with
 | 1|2|3=>tabB m
 | 4|5=>rangeB m
 | 8|10=>pceB m
 | 11=>codeB m
 |_=>true
def stripM (k:Nat) (m:bc):bc:=match k with
 | 1|2=>sPing m
 | 3=>sReq m
 | 4=>sSum m
 | 5=>sItems m
 | 8|10=>sPiece m
 | 11=>sStored m
 |_=>sObj m
def fullM (m:bc):bc:={ stripM m.kind m with kind:=m.kind,from_:=m.from_,to_:=m.to_ }
def eY (m:bc):Bool:=kindOk m.kind&&peerB m.from_&&peerB m.to_ && !(m.from_==m.to_)&&chkB m.kind m&&decide (m=fullM m)
theorem kinds {k:Nat} (h:kindOk k=true):k=1∨k=2∨k=3∨k=4∨k=5∨k=6∨k=7∨k=8∨k=9∨k=10∨k=11∨k=12∨k=13:=by
 unfold kindOk at h
 rw [Bool.and_eq_true] at h
 have h1:=Nat.le_of_ble_eq_true h.1
 have h2:=Nat.le_of_ble_eq_true h.2
 omega
theorem stripM_wf {k:Nat} {m:bc} (hk:kindOk k=true) (w:m.Wf):(stripM k m).Wf:=by
 rcases kinds hk with rfl|rfl|rfl|rfl|rfl|rfl|rfl|rfl|rfl|rfl|rfl|rfl|rfl
 ·exact sPing_wf w
 ·exact sPing_wf w
 ·exact sReq_wf w
 ·exact sSum_wf w
 ·exact sItems_wf w
 ·exact sObj_wf w
 ·exact sObj_wf w
 ·exact sPiece_wf w
 ·exact sObj_wf w
 ·exact sPiece_wf w
 ·exact sStored_wf w
 ·exact sObj_wf w
 ·exact sObj_wf w
theorem fullM_wf {m:bc} (hk:kindOk m.kind=true) (w:m.Wf):(fullM m).Wf:={ stripM_wf hk w with kind:=w.kind,from_:=w.from_,to_:=w.to_ }
section
variable {h:ai} {s:dN} {m:bc} (hG:4≤h.n0) (x:Has h s m)
include hG x
theorem chk_call {k:Nat} (hk:kindOk k=true) : ∃ h',callA Tryz.prog CW (fnV (fmN k).2.1) [mv m s] h=some (.bool (chkB k m),h')∧Old h h':=by
 rcases kinds hk with rfl|rfl|rfl|rfl|rfl|rfl|rfl|rfl|rfl|rfl|rfl|rfl|rfl
 ·exact (aS CW 95 _ h).symm▸r95 hG x
 ·exact (aS CW 95 _ h).symm▸r95 hG x
 ·exact (aS CW 95 _ h).symm▸r95 hG x
 ·exact (aS CW 111 _ h).symm▸r111 hG x
 ·exact (aS CW 111 _ h).symm▸r111 hG x
 ·exact (aS CW 102 _ h).symm▸r102 hG x
 ·exact (aS CW 102 _ h).symm▸r102 hG x
 ·exact (aS CW 106 _ h).symm▸r106 hG x
 ·exact (aS CW 102 _ h).symm▸r102 hG x
 ·exact (aS CW 106 _ h).symm▸r106 hG x
 ·exact (aS CW 118 _ h).symm▸r118 hG x
 ·exact (aS CW 102 _ h).symm▸r102 hG x
 ·exact (aS CW 102 _ h).symm▸r102 hG x
theorem strip_call {k:Nat} (hk:kindOk k=true) : ∃ s' h',callA Tryz.prog CW (fnV (fmN k).2.2.1) [mv m s] h=some (mv (stripM k m) s',h')∧Has h' s' (stripM k m)∧Old h h':=by
 rcases kinds hk with rfl|rfl|rfl|rfl|rfl|rfl|rfl|rfl|rfl|rfl|rfl|rfl|rfl
 ·exact (aS CW 96 _ h).symm▸r96 hG x
 ·exact (aS CW 96 _ h).symm▸r96 hG x
 ·exact (aS CW 99 _ h).symm▸r99 hG x
 ·exact (aS CW 112 _ h).symm▸r112 hG x
 ·exact (aS CW 115 _ h).symm▸r115 hG x
 ·exact (aS CW 103 _ h).symm▸r103 hG x
 ·exact (aS CW 103 _ h).symm▸r103 hG x
 ·exact (aS CW 107 _ h).symm▸r107 hG x
 ·exact (aS CW 103 _ h).symm▸r103 hG x
 ·exact (aS CW 107 _ h).symm▸r107 hG x
 ·exact (aS CW 119 _ h).symm▸r119 hG x
 ·exact (aS CW 103 _ h).symm▸r103 hG x
 ·exact (aS CW 103 _ h).symm▸r103 hG x
theorem r22m {s':dN} {m':bc} (x':Has h s' m') (sm:m.n.Small) : ∃ h',CW 22 [mv m s,mv m' s'] h=some (.bool (decide (m=m')),h')∧Old h h':=by
 obtain ⟨r,h',e,hr,o⟩:=r22 hG x.sl x'.sl (bc.ok x.wf) (bc.ok x'.wf) sm
 refine ⟨h',?_,o⟩
 have:r=decide (m=m'):=by
  by_cases q:m=m'
  ·rw [decide_eq_true q,hr.2 (by rw [q])]
  ·rw [decide_eq_false q]
   cases r with
   |false=>rfl
   |true=>exact absurd (bc.d_inj x.wf x'.wf (hr.1 rfl)) q
 rw [←this];exact e
set_option maxRecDepth 100000 in
theorem r19 (sm:m.n.Small) : ∃ h',CW 19 [mv m s] h=some (.int .i64 (if eY m then 0 else 2),h')∧Old h h':=by
 obtain ⟨h1,b1,o1,x1,A,n1,-⟩:=eU x
 have hG1:4≤h1.n0:=by rw [o1.n0];exact hG
 obtain ⟨h2,e2,o2⟩:=r35 hG1 x.wf.kind
 have O2:=o1.trans o2
 obtain ⟨h3,z3,o3,g3,_⟩:=fresh [(.string ⟨#[]⟩),.nilFunc,.nilFunc,.nilFunc,.nilFunc] h2
 have c:=fmC_ok m.kind
 have p3:h3.n0≤h2.next:=by rw [o3.n0];exact h2.aQ
 obtain ⟨h4,s4,k4,g4,-,-⟩:=cj (n:=5) (k':=fmC m.kind) g3 p3 rfl c.2.2 c.2.1
 have o24:Old h2 h4:=o3.dw k4 (fun d hd e=>by omega)
 have O4:=O2.trans o24
 have o14:=o2.trans o24
 have hG4:4≤h4.n0:=by rw [O4.n0];exact hG
 have x4:=x1.bL o14
 have A4:=cS x4 (Old.get o14 A.g)
 have f1:aP (ptr h2.next 1) h4=some (fnV (fmN m.kind).2.1,h4):=aU g4 rfl (by unfold fnV;split<;>rfl)
 have e5:=r46 hG4 m.from_
 have e6:=r46 hG4 m.to_
 cases q0:kindOk m.kind with
 |false=>
  refine ⟨h4,ay is19 hG rfl ((t19_eq _ _ _).trans ?_),O4⟩
  unfold t19 eY
  simp -implicitDefEqProofs only [b1, A.l0, e2, eN, eP, z3, s4, ah, ao, ar, sf, aj, Bool.false_eq_true, if_false, if_true, aq, Nat.zero_add, Bool.not_false, av, q0, Bool.and_true, Bool.false_and, Bool.not_false]
 |true=>
 cases q1:peerB m.from_ with
 |false=>
  refine ⟨h4,ay is19 hG rfl ((t19_eq _ _ _).trans ?_),O4⟩
  unfold t19 eY
  simp -implicitDefEqProofs only [b1, A.l0, e2, eN, eP, z3, s4, A4.l1, e5, ah, ao, ar, sf, beq_self_eq_true, ak, aj, Bool.false_eq_true, if_false, if_true, aq, Nat.zero_add, Bool.not_true, Bool.not_false, av, q0, q1, Bool.and_true, Bool.and_false, Bool.false_and, Bool.not_true, Bool.not_false]
 |true=>
 cases q2:peerB m.to_ with
 |false=>
  refine ⟨h4,ay is19 hG rfl ((t19_eq _ _ _).trans ?_),O4⟩
  unfold t19 eY
  simp -implicitDefEqProofs only [b1, A.l0, e2, eN, eP, z3, s4, A4.l1, e5, A4.l2, e6, ah, ao, ar, sf, beq_self_eq_true, ak, aj, Bool.false_eq_true, if_false, if_true, aq, Nat.zero_add, Bool.not_true, Bool.not_false, av, q0, q1, q2, Bool.and_true, Bool.and_false, Bool.false_and, Bool.not_true, Bool.not_false]
 |true=>
 cases q3:m.from_==m.to_ with
 |true=>
  refine ⟨h4,ay is19 hG rfl ((t19_eq _ _ _).trans ?_),O4⟩
  unfold t19 eY
  simp -implicitDefEqProofs only [b1, A.l0, e2, eN, eP, z3, s4, A4.l1, e5, A4.l2, e6, ah, ao, ar, sf, beq_self_eq_true, ak, aj, Bool.false_eq_true, if_false, if_true, aq, Nat.zero_add, Bool.not_true, av, aG, q0, q1, q2, q3, Bool.and_true, Bool.and_false, Bool.false_and, Bool.not_true]
 |false=>
 obtain ⟨h5,e7,o5⟩:=chk_call hG4 x4 q0
 cases q4:chkB m.kind m with
 |false=>
  refine ⟨h5,ay is19 hG rfl ((t19_eq _ _ _).trans ?_),O4.trans o5⟩
  unfold t19 eY
  simp -implicitDefEqProofs only [b1, A.l0, e2, eN, eP, z3, s4, A4.l1, e5, A4.l2, e6, f1, A4.all, e7, ah, ao, ar, beq_self_eq_true, ak, Bool.false_eq_true, if_false, aq, Nat.zero_add, Bool.not_true, Bool.not_false, av, aG, q0, q1, q2, q3, q4, Bool.and_true, Bool.and_false, Bool.false_and, Bool.not_true, Bool.not_false]
 |true=>
 have O5:=O4.trans o5
 have x5:=x4.bL o5
 have A5:=cS x5 (Old.get o5 A4.g)
 have g5:=Old.get o5 g4
 have hG5:4≤h5.n0:=by rw [O5.n0];exact hG
 have f2:aP (ptr h2.next 2) h5=some (fnV (fmN m.kind).2.2.1,h5):=aU g5 rfl (by unfold fnV;split<;>rfl)
 obtain ⟨s6,h6,e8,X6,o6⟩:=strip_call hG5 x5 q0
 obtain ⟨hz,h7,z7,oz,u7,-,X7,o7,g7,o7'⟩:=made (Kept.refl h6 _) X6
 have O7:=(O5.trans o6).trans o7
 have A7:=cS ((x5.bL o6).bL o7) (Old.get o7 (Old.get o6 A5.g))
 have hlt:h.next<h6.next:=by
  have:=(o14.trans (o5.trans o6)).next
  omega
 have nz:h6.next≠h.next:=by omega
 have p7:h7.n0≤h6.next:=by rw [o7.n0];exact h6.aQ
 have len7:(m.d.cells s).length=116:=cells_len (bc.ok x.wf)
 have len7':((stripM m.kind m).d.cells s6).length=116:=cells_len (bc.ok (stripM_wf q0 x.wf))
 obtain ⟨h8,t0,k8,g8,p8,-⟩:=stored (v := .int .u8 (m.kind:Int)) (o:=0) g7 p7 (by omega) rfl rfl
 obtain ⟨h9,t1,k9,g9,p9,-⟩:=stored (v := .int .i64 m.from_) (o:=1) g8 p8 (by rw [List.length_set];omega) rfl rfl
 obtain ⟨h10,t2,k10,g10,-,-⟩:=stored (v := .int .i64 m.to_) (o:=2) g9 p9 (by rw [List.length_set,List.length_set];omega) rfl rfl
 have g10:h10.get h6.next=some ((fullM m).d.cells s6):=g10
 have kk:=(k8.trans k9).trans k10
 have o610:Old h6 h10:=o7'.dw kk (fun d hd e=>by omega)
 have O10:=(O5.trans o6).trans o610
 have x10:=(x5.bL o6).bL o610
 have A10:=cS x10 (Old.get o610 (Old.get o6 A5.g))
 have X10:Has h10 s6 (fullM m):=⟨⟨(X6.bL o610).sl.a,(X6.bL o610).sl.b,(X6.bL o610).sl.c,(X6.bL o610).sl.d,(X6.bL o610).sl.e,(X6.bL o610).sl.f⟩,fullM_wf q0 x.wf⟩
 have B10:=cS X10 g10
 have l1:aP (ptr h.next 1) h8=some (.int .i64 m.from_,h8):=aU (k8.fj A7.g (fun e=>nz e.symm)) rfl
 have l2:aP (ptr h.next 2) h8=some (.int .i64 m.to_,h8):=aU (k8.fj A7.g (fun e=>nz e.symm)) rfl
 have l2':aP (ptr h.next 2) h9=some (.int .i64 m.to_,h9):=aU (k9.fj (k8.fj A7.g (fun e=>nz e.symm)) (fun e=>nz e.symm)) rfl
 have w1:=chk_at l1 (by simp [Abs.veq])
 have w2:=chk_at l2 (by simp [Abs.veq])
 have w3:=chk_at l2' (by simp [Abs.veq])
 obtain ⟨h11,e11,o11⟩:=r22m (by rw [O10.n0];exact hG) x10 X10 sm
 refine ⟨h11,ay is19 hG rfl ((t19_eq _ _ _).trans ?_),O10.trans o11⟩
 unfold t19 eY
 cases q5:decide (m=fullM m) with
 |false=>
  rw [q5] at e11
  simp -implicitDefEqProofs only [b1, A.l0, e2, eN, eP, z3, s4, A4.l1, e5, A4.l2, e6, f1, A4.all, e7, f2, A5.all, e8, z7, u7, A7.l0, A7.l1, A7.l2, t0, t1, t2, w1, w2, w3, A10.all, B10.all, e11, ah, ao, ar, beq_self_eq_true, ak, Bool.false_eq_true, if_false, aq, Nat.zero_add, Bool.not_true, Bool.not_false, av, aG, q0, q1, q2, q3, q4, Bool.and_true, Bool.and_false, Bool.not_true, Bool.not_false]
 |true=>
  rw [q5] at e11
  simp -implicitDefEqProofs only [b1, A.l0, e2, eN, eP, z3, s4, A4.l1, e5, A4.l2, e6, f1, A4.all, e7, f2, A5.all, e8, z7, u7, A7.l0, A7.l1, A7.l2, t0, t1, t2, w1, w2, w3, A10.all, B10.all, e11, ah, ao, ar, beq_self_eq_true, ak, Bool.false_eq_true, if_false, if_true, aq, Nat.zero_add, Bool.not_true, Bool.not_false, av, aG, q0, q1, q2, q3, q4, Bool.and_true, Bool.not_true, Bool.not_false]
end
end Go.Proofs.YtjghlcdidopcpaaGreatDoor

namespace Go.Proofs.YtjghlcdidopcpaaGreatDoor
open Go Go.Abs
attribute [local congr] bo
theorem is34:bG Tryz.prog 34 Tryz.f34:=⟨by kernel_rfl,by kernel_rfl,by kernel_rfl,by kernel_rfl⟩
theorem r34 {h:ai} (hG:4≤h.n0) {a:Option Addr} {n c:Nat} {l:List Nat} (hl:ax a n h=some l) (hn:n<9223372036854775807) : ∃ h',CW 34 [.slice a n c] h=some (u32 (crcN l),h')∧Old h h':=by
 obtain ⟨h1,e,o⟩:=t34_is (C:=CW) a n c l h hl hn
 exact ⟨h1,ay is34 hG rfl ((t34_eq _ _ _).trans e),o⟩
theorem is52:bG Tryz.prog 52 Tryz.f52:=⟨by kernel_rfl,by kernel_rfl,by kernel_rfl,by kernel_rfl⟩
theorem r52 {h:ai} {N w lim:Nat} {l:List Nat} (W:IsW h N w lim l) {a:Option Addr} {n c:Nat} {m:List Nat} (hm:ax a n h=some m) (ha : ∀ y,a=some y→0<n→Fr h w y.block) (hfit:l.length+n≤lim) :
  ∃ h',CW 52 [ptr w 0,.slice a n c] h=some (.tuple #[],h')∧IsW h' N w lim (l++m)∧WS w h h':=by
 obtain ⟨h1,e1,W1,k1⟩:=r85 W (n:=n) hfit
 have hsm:=W.small
 obtain ⟨v1,v2,g1,g2,f1,f2,f3,f4,f5⟩:=w_append (c:=c) W1 (k1.bytes hm ha) (by omega)
 have hl:bM (.slice a n c)=some (aH n):=rfl
 refine ⟨g2,ay is52 W.g4 rfl ((t52_eq _ _ _ _).trans ?_),f4,k1.trans f5⟩
 unfold t52
 simp -implicitDefEqProofs only [ah,hl,ao,e1,bf,aq,Nat.zero_add,f1,f2,f3]
theorem agg28:aggT Tryz.prog 28=some true:=by kernel_rfl
theorem siz28:cr Tryz.prog 28=some 32:=by kernel_rfl
theorem arr32 (b o:Nat):cJ 32 1 (ptr b o) none none none=some (.slice (some ⟨b,o,none⟩) 32 32):=by
 unfold cJ
 rfl
theorem IsR.dG {h h':ai} {B:Nat→Prop} {p r:Nat} {l:List Nat} {e:Int} (R:IsR h p r l e) (k:Kept h h' B) (hB : ∀ b,b=r∨(p≤b∧b<r) → ¬B b):IsR h' p r l e:=by
 obtain ⟨a,n,c,h1,h2,h3,h4⟩:=R.ex
 exact ⟨⟨a,n,c,k.fj h1 (hB r (.inl rfl)),k.bytes h2 (fun y hy _=>hB _ (.inr (h4 y hy))),h3,h4⟩,k.n0▸R.n0,R.len,k.n0▸R.g4,R.pr⟩
theorem pad_len {m:List Nat} (h:m.length≤32):(dj m).length=32:=by
 unfold dj
 rw [List.length_append,List.length_replicate]
 omega
theorem splice_pad {m:List Nat} {n:Nat} (hn:m.length=n) (h:n≤32):spliceN z32 0 (m.take (min n 32))=dj m:=by
 unfold spliceN dj z32
 rw [Nat.min_eq_left h,List.take_of_length_le (l:=m) (by omega),List.take_zero,List.nil_append,Nat.zero_add,List.drop_replicate]
theorem dR (l:List Nat):Abs.bq (bZ l)=true∧aR (bZ l)=true:=by
 refine ⟨?_,?_⟩
 ·unfold Abs.bq
  rw [List.all_eq_true]
  intro v hv
  obtain ⟨x,_,rfl⟩:=List.mem_map.1 hv
  rfl
 ·unfold aR
  rw [List.all_eq_true]
  intro v hv
  obtain ⟨x,_,rfl⟩:=List.mem_map.1 hv
  rfl
theorem ek {h:ai} {b n:Nat} {k:List Value} (g:h.get b=some k) (hl:k.length=n) (nh:Abs.bq k=true):cq n (ptr b 0) h=some (.agg k.toArray,h):=ldN_mid g (A := []) (B:=k) (C := []) (by simp) rfl hl nh
section
variable {p r:Nat} {s:Rd} {h:ai} (R:fc h p r s)
include R
theorem q130 : ∃ h',CW 130 [ptr r 0] h=some (.agg (bZ (dj (s.take 32).1)).toArray,h')∧fc h' p r (s.take 32).2∧Kept h h' (fun c=>c=r):=by
 have hr:Tryz.f130.results.toList = [.cell 2 28]:=by kernel_rfl
 have rl:r<h.next:=R.lt
 obtain ⟨h1,z1,o1,g1,n1⟩:=fresh (List.replicate 32 (.int .u8 0)) h
 have R1:fc h1 p r s:=R.dG o1 (fun _ _ h=>h)
 obtain ⟨a,c,h2,e2,f2,f3,R2,k2,_⟩:=q74 R1 (n:=32)
 have e2:CW 74 [ptr r 0,.int .i64 32] h1=_:=e2
 have g2:h2.get h.next=some (bZ z32):=k2.fj g1 (by omega)
 have p2:h2.n0≤h.next:=by rw [k2.n0,o1.n0];exact h.aQ
 have hl:=s.take_len 32
 have hm:(s.take 32).1.length=(s.take 32).1.length:=rfl
 obtain ⟨h3,e3,q1,q2,q3,q4⟩:=copy_bytes (dl:=32) (dc:=32) (c:=c) (s:=none) (off:=0) (b:=h.next) g2 p2 f2 (by
  show 0+min _ 32≤32
  omega)
 rw [splice_pad rfl hl] at q3
 have k3:Kept h2 h3 (fun c=>c=h.next):=⟨q1,by omega,fun d _ hd=>q4 d hd⟩
 have p3:h3.n0≤h.next:=by rw [q1];exact p2
 have hpl:(bZ (dj (s.take 32).1)).length=32:=by rw [List.length_map];exact pad_len hl
 have l3:=ek (n:=32) q3 hpl (dR _).1
 obtain ⟨h4,t4,k4,g4,_,_⟩:=cj (n:=32) q3 p3 hpl hpl (dR _).2
 have l4:=ek (n:=32) g4 hpl (dR _).1
 have kk:=k3.trans k4
 refine ⟨h4,ay is130 R.g4 rfl ((t130_eq _ _ _).trans ?_),R2.dG kk (fun b hb e=>by omega),((o1.mono (B':=fun c=>c=r) (fun _ _ h=>h.elim)).trans k2).dw kk (fun d hd e=>by omega)⟩
 unfold t130
 simp -implicitDefEqProofs only [z1,ah,arr32,ao,e2,e3,l3,t4]
 exact fA hr agg28 siz28 (show 2<8 by decide) _ l4
theorem q149 : ∃ h',CW 149 [ptr r 0] h=some (.agg (bZ (dj (s.take 32).1)).toArray,h')∧fc h' p r (s.take 32).2∧Kept h h' (fun c=>c=r):=by
 have hr:Tryz.f149.results.toList = [.cell 2 28]:=by kernel_rfl
 have rl:r<h.next:=R.lt
 obtain ⟨h0,z0,o0,g0,n0⟩:=fresh (List.replicate 32 (.int .u8 0)) h
 have R0:fc h0 p r s:=R.dG o0 (fun _ _ h=>h)
 obtain ⟨h1,z1,o1,g1,n1⟩:=fresh (List.replicate 32 (.int .u8 0)) h0
 have R1:fc h1 p r s:=R0.dG o1 (fun _ _ h=>h)
 obtain ⟨a,c,h2,e2,f2,f3,R2,k2,_⟩:=q94 R1 32
 have e2:CW 94 [ptr r 0,.int .i64 32] h1=_:=e2
 have g2:h2.get h0.next=some (bZ z32):=k2.fj g1 (by omega)
 have g02:=k2.fj (Old.get o1 g0) (by omega)
 have p2:h2.n0≤h0.next:=by rw [k2.n0,o1.n0];exact h0.aQ
 have hl:=s.take_len 32
 obtain ⟨h3,e3,q1,q2,q3,q4⟩:=copy_bytes (dl:=32) (dc:=32) (c:=c) (s:=none) (off:=0) (b:=h0.next) g2 p2 f2 (by
  show 0+min _ 32≤32
  omega)
 rw [splice_pad rfl hl] at q3
 have k3:Kept h2 h3 (fun c=>c=h0.next):=⟨q1,by omega,fun d _ hd=>q4 d hd⟩
 have hpl:(bZ (dj (s.take 32).1)).length=32:=by rw [List.length_map];exact pad_len hl
 have l3:=ek (n:=32) q3 hpl (dR _).1
 have g03:=k3.fj g02 (by omega)
 have p3:h3.n0≤h.next:=by rw [q1,k2.n0,o1.n0,o0.n0];exact h.aQ
 obtain ⟨h4,t4,k4,g4,_,_⟩:=cj (n:=32) (k':=bZ (dj (s.take 32).1)) g03 p3 rfl hpl (dR _).2
 have l4:=ek (n:=32) g4 hpl (dR _).1
 refine ⟨h4,ay is149 R.g4 rfl ((t149_eq _ _ _).trans ?_),(R2.dG k3 (fun b hb e=>by omega)).dG k4 (fun b hb e=>by omega),((((o0.trans o1).mono (B':=fun c=>c=r) (fun _ _ h=>h.elim)).trans k2).dw k3 (fun d hd e=>by omega)).dw k4 (fun d hd e=>by omega)⟩
 unfold t149
 simp -implicitDefEqProofs only [z0,z1,ah,arr32,ao,e2,e3,l3,t4]
 exact fA hr agg28 siz28 (show 2<9 by decide) _ l4
end
end Go.Proofs.YtjghlcdidopcpaaGreatDoor

namespace Go.Proofs.YtjghlcdidopcpaaGreatDoor
open Go Go.Abs
attribute [local congr] bo
def i8 (x:Int):Nat:=(x%256).toNat
def i16 (x:Int):Nat:=(x%65536).toNat
def i32 (x:Int):Nat:=(x%4294967296).toNat
theorem i8_lt (x:Int):i8 x<256:=by unfold i8;omega
theorem i16_lt (x:Int):i16 x<65536:=by unfold i16;omega
theorem i32_lt (x:Int):i32 x<4294967296:=by unfold i32;omega
theorem wrap_i8 (x:Int):IntKind.wrap .u8 x=(i8 x:Nat):=by rw [wrap_u8_mod];unfold i8;omega
theorem wrap_i16 (x:Int):IntKind.wrap .u16 x=(i16 x:Nat):=by rw [wrap_u16_mod];unfold i16;omega
theorem wrap_i32 (x:Int):IntKind.wrap .u32 x=(i32 x:Nat):=by rw [wrap_u32_mod];unfold i32;omega
def bit (b:Bool):Nat:=if b then 1 else 0
def eV (r:bT):List Nat:=cy 1 r.kind++(r.obj++(cy 1 (i8 r.dg)++(cy 8 r.inc++(cy 8 r.num++(cy 1 (bit r.held)++(cy 1 (i8 r.k)++cy 1 (i8 r.n)))))))
def ef (m:bc):List Nat:=cy 2 19713++(cy 1 (i8 m.gk)++(cy 1 (i8 m.gn)++(cy 1 (i8 m.gt)++(cy 2 (i16 m.gs)++(m.cK++m.pieces.flatMap id)))))
theorem cC {h:ai} {b off:Nat} {s:Option Nat} {k A C:List Value} {l:List Nat} (g:h.get b=some k) (e:k=A++(bZ l++C)) (hA:A.length=off) (hb:dv l):ax (some ⟨b,off,s⟩) l.length h=some l:=by
 unfold ax
 rw [Option.bind_eq_some_iff]
 refine ⟨bZ l,?_,bytesOf_map hb⟩
 have hm:=mid e hA (show (bZ l).length=l.length from List.length_map ..)
 have hl:off+l.length≤k.length:=by rw [e,List.length_append,List.length_append,List.length_map,hA];omega
 simp only [bO,g,Nat.mul_one]
 by_cases h0:l.length=0
 ·rw [if_pos h0,List.length_eq_zero_iff.1 h0];rfl
 ·rw [if_neg h0,hm,if_pos ⟨hl,(dR l).1⟩]
theorem sliceBytes_put {g:ai} {b off m i v:Nat} {s:Option Nat} {k:dk} {l:List Nat} (h0:g.n0≤b) (hk:g.get b=some k) (hl:ax (some ⟨b,off,s⟩) m g=some l) (hi:i<m) (hv:v<256) :
  ∃ h',cv 1 (ptr b (off+i)) (u8 v) g=some (undef,h')∧ax (some ⟨b,off,s⟩) m h'=some (l.set i v)∧Kept g h' (· = b)∧h'.next=g.next:=by
 obtain ⟨hlen,hb,hat⟩:=aA hl
 obtain ⟨b',off',s',k',he,hk',hkl,hc⟩:=hat (by omega)
 cases he
 rw [hk] at hk';cases hk'
 obtain ⟨h',e1,e2,e3,_,e5⟩:=stored (v:=u8 v) (o:=off+i) hk h0 (by omega) rfl rfl
 refine ⟨h',e1,?_,e2,e5⟩
 have hcells:(k.drop off).take m=bZ l:=by
  refine List.ext_getElem? fun j => ?_
  rw [List.getElem?_take]
  by_cases hj:j<m
  ·rw [if_pos hj,List.getElem?_drop,hc j hj,List.getElem?_map,List.getD_eq_getElem?_getD,List.getElem?_eq_getElem (by omega)]
   rfl
  ·rw [if_neg hj,List.getElem?_eq_none (by rw [List.length_map];omega)]
 have hsplit:(k.set (off+i) (u8 v))=k.take off++(bZ (l.set i v)++k.drop (off+m)):=by
  have h1:k=k.take off++(bZ l++k.drop (off+m)):=by
   rw [←hcells,←List.drop_drop,List.take_append_drop,List.take_append_drop]
  have h2:(k.take off).length=off:=by rw [List.length_take];omega
  conv=>lhs;rw [h1]
  rw [List.set_append_right _ _ (by omega),h2,Nat.add_sub_cancel_left,List.set_append_left _ _ (by rw [List.length_map];omega),show bZ (l.set i v)=(bZ l).set i (u8 v) from List.map_set ..]
 have hb':dv (l.set i v):=fun x hx=>by
  rcases List.mem_or_eq_of_mem_set hx with hx|hx
  ·exact hb x hx
  ·omega
 have:=cC (off:=off) (s:=s) e3 hsplit (by rw [List.length_take];omega) hb'
 rw [List.length_set,hlen] at this
 exact this
theorem Old.fL {a b c:ai} {d:Nat} (x:Old a b) (k:Kept b c (· = d)) (hd:a.next≤d):Old a c:=x.dw k (fun e he q=>by omega)
theorem idx_bytes {a:Option Addr} {n c i:Nat} {h:ai} {l:List Nat} (e:ax a n h=some l) (hi:i<n) : ∃ b off s k,a=some ⟨b,off,s⟩∧h.get b=some k∧cn 1 (.slice a n c) (aH i)=some (ptr b (off+i)):=by
 obtain ⟨b,off,s,k,rfl,hk,_⟩:=(aA e).2.2 (by omega)
 refine ⟨b,off,s,k,rfl,hk,?_⟩
 unfold cn
 simp only []
 rw [if_pos (by omega),Int.toNat_natCast,Nat.mul_one]
theorem set_nat {A B B':List Nat} {i v:Nat} (j:Nat) (h:A.length+j=i) (e:B.set j v=B'):(A++B).set i v=A++B':=by
 subst h
 rw [List.set_append_right _ _ (by omega),Nat.add_sub_cancel_left,e]
theorem rec_box2 (h:ai) {r:bT} (w:r.Wf) : ∃ h1,box (.agg (recC r).toArray) h=some (ptr h.next 0,h1)∧Old h h1∧h1.get h.next=some (recC r)∧h1.next=h.next+1:=by
 have g1:(h.alloc (recC r)).get h.next=some (recC r):=by rw [ai.aN,if_pos rfl]
 exact ⟨_,dP h _ (bA w).2.2,Kept.alloc _ _ _,g1,rfl⟩
theorem is139:bG Tryz.prog 139 Tryz.f139:=⟨by kernel_rfl,by kernel_rfl,by kernel_rfl,by kernel_rfl⟩
set_option maxRecDepth 100000 in
theorem r139 {h:ai} (hG:4≤h.n0) {r:bT} (w:r.Wf) (v:recB r=true) : ∃ a c h',CW 139 [.agg (recC r).toArray] h=some (.tuple #[.slice a 53 c,.int .i64 0],h')∧ax a 53 h'=some (eV r)∧Old h h'∧(∀ y,a=some y→h.next≤y.block):=by
 obtain ⟨h1,b1,o1,g1,n1⟩:=rec_box2 h w
 have A1:=r_ld w g1
 obtain ⟨h2,e2,o2⟩:=r138 (h:=h1) (by rw [o1.n0];exact hG) w
 rw [v] at e2
 have O2:=o1.trans o2
 have m2:=o2.next
 obtain ⟨h3,e3,W3,o3,F3⟩:=r47 h2 (by rw [O2.n0];exact hG) (lim:=53) (by decide)
 have e3:CW 47 [.int .i64 53] h2=_:=e3
 have fb:Fr h3 h2.next h.next:=F3 _ (by omega)
 have gb:h3.get h.next=some (recC r):=Old.get o3 (Old.get o2 g1)
 have K3:WS h2.next h3 h3:=WS.refl _ _
 have A3:=r_ld w gb
 obtain ⟨h4,e4,W4,k4⟩:=r50 W3 (v:=r.kind) (by simp only [List.length_nil];omega) w.kind
 have K4:=K3.trans k4
 have A4:=r_ld w ((K4.get _ fb).trans gb)
 obtain ⟨h5,e5,W5,k5⟩:=r52 W4 (n:=r.obj.length) (c:=32) (cC (off:=1) (s:=none) ((K4.get _ fb).trans gb) (A := [.int .u8 (r.kind:Int)]) rfl rfl w.obj.2) (fun y hy _=>by cases hy;exact K4.fr _ fb) (by simp only [List.length_append, aD, List.length_nil, w.obj.1];omega)
 have K5:=K4.trans k5
 have A5:=r_ld w ((K5.get _ fb).trans gb)
 obtain ⟨h6,e6,W6,k6⟩:=r50 W5 (v:=i8 r.dg) (by simp only [List.length_append, aD, List.length_nil, w.obj.1];omega) (i8_lt _)
 have K6:=K5.trans k6
 have A6:=r_ld w ((K6.get _ fb).trans gb)
 obtain ⟨h7,e7,W7,k7⟩:=r126 W6 (v:=r.inc) (by simp only [List.length_append, aD, List.length_nil, w.obj.1];omega) w.inc
 have K7:=K6.trans k7
 have A7:=r_ld w ((K7.get _ fb).trans gb)
 obtain ⟨h8,e8,W8,k8⟩:=r126 W7 (v:=r.num) (by simp only [List.length_append, aD, List.length_nil, w.obj.1];omega) w.num
 have K8:=K7.trans k8
 have A8:=r_ld w ((K8.get _ fb).trans gb)
 obtain ⟨h9,e9,W9,k9⟩:=r50 W8 (v:=0) (by simp only [List.length_append, aD, List.length_nil, w.obj.1];omega) (by decide)
 have K9:=K8.trans k9
 have A9:=r_ld w ((K9.get _ fb).trans gb)
 obtain ⟨h10,e10,W10,k10⟩:=r50 W9 (v:=i8 r.k) (by simp only [List.length_append, aD, List.length_nil, w.obj.1];omega) (i8_lt _)
 have K10:=K9.trans k10
 have A10:=r_ld w ((K10.get _ fb).trans gb)
 obtain ⟨h11,e11,W11,k11⟩:=r50 W10 (v:=i8 r.n) (by simp only [List.length_append, aD, List.length_nil, w.obj.1];omega) (i8_lt _)
 have K11:=K10.trans k11
 have A11:=r_ld w ((K11.get _ fb).trans gb)
 have a5:(32:Nat)=r.obj.length:=w.obj.1.symm
 have e5:CW 52 [ptr h2.next 0,.slice (some ⟨h.next,1,none⟩) 32 32] h4=some (.tuple #[],h5):=by
  have:=e5
  rw [w.obj.1] at this
  exact this
 have e9:CW 50 [ptr h2.next 0,.int .u8 0] h8=some (.tuple #[],h9):=e9
 obtain ⟨a,c,h12,e12,s12,_,o12,f12⟩:=r48 W11 (by simp only [List.length_append, aD, List.length_nil, w.obj.1];decide)
 have hL:(((((((([]++cy 1 r.kind)++r.obj)++cy 1 (i8 r.dg))++cy 8 r.inc)++cy 8 r.num)++cy 1 0)++cy 1 (i8 r.k))++cy 1 (i8 r.n)).length=53:=by simp only [List.length_append, aD, List.length_nil, w.obj.1]
 have o212:Old h2 h12:=by
  refine ⟨by rw [o12.n0,K11.n0,o3.n0],Nat.le_trans o3.next (Nat.le_trans K11.next o12.next),fun d hd _ => ?_⟩
  have f3:=F3 d hd
  exact (Kept.get o12 d (Nat.lt_of_lt_of_le f3.1 K11.next) (fun h=>h)).trans ((K11.get d f3).trans (Kept.get o3 d hd (fun h=>h)))
 have A12:=r_ld w (Old.get o212 (Old.get o2 g1))
 rw [hL] at e12 s12
 have hle:h.next≤h11.next:=by have:=Nat.le_trans o3.next K11.next;omega
 have hs3:bin Tryz.prog .sub 3 (aH 53) (.int .i64 3)=some (aH 50):=sub3 (b:=3) (by decide) (by decide)
 have hl53:bM (.slice a 53 c)=some (aH 53):=rfl
 cases hh:r.held with
 |false=>
  refine ⟨a,c,h12,ay is139 hG rfl ((t139_eq _ _ _).trans ?_),?_,O2.trans o212,fun y hy=>Nat.le_trans hle (f12 y hy)⟩
  ·have eT:aP (ptr h.next 36) h12=some (.bool false,h12):=by rw [A12.eT,hh]
   unfold t139
   simp -implicitDefEqProofs only [b1, A1.all, e2, e3, A3.l0, e4, arr32, e5, A5.l33, ba, wrap_i8, e6, A6.l34, e7, A7.l35, e8, e9, A9.l37, e10, A10.l38, e11, e12, eN, eP, eT, ah, ao, aq, Nat.zero_add, Bool.not_true, av]
  ·rw [s12]
   unfold eV bit
   rw [hh]
   simp only [List.append_assoc,List.nil_append,Bool.false_eq_true,if_false]
 |true=>
  obtain ⟨b,off,s,k,rfl,hk,hix⟩:=idx_bytes (c:=c) (i:=50) s12 (by decide)
  have hbn:h11.next≤b:=f12 _ rfl
  obtain ⟨h13,e13,s13,k13,n13⟩:=sliceBytes_put (i:=50) (v:=1) (by rw [o212.n0];have:=h2.aQ;have:=Nat.le_trans o3.next K11.next;omega) hk s12 (by decide) (by decide)
  refine ⟨some ⟨b,off,s⟩,c,h13,ay is139 hG rfl ((t139_eq _ _ _).trans ?_),?_,Old.fL (O2.trans o212) k13 (Nat.le_trans hle hbn),fun y hy=>by cases hy;exact Nat.le_trans hle hbn⟩
  ·have eT:aP (ptr h.next 36) h12=some (.bool true,h12):=by rw [A12.eT,hh]
   have e13:cv 1 (ptr b (off+50)) (.int .u8 1) h12=some (undef,h13):=e13
   unfold t139
   simp -implicitDefEqProofs only [b1, A1.all, e2, e3, A3.l0, e4, arr32, e5, A5.l33, ba, wrap_i8, e6, A6.l34, e7, A7.l35, e8, e9, A9.l37, e10, A10.l38, e11, e12, eN, eP, eT, hl53, hs3, hix, e13, ah, ao, aq, Nat.zero_add, Bool.not_true, av]
  ·rw [s13]
   unfold eV bit
   rw [hh]
   simp only [List.append_assoc,List.nil_append,if_true]
   congr 1
   rw [show cy 1 r.kind++(r.obj++(cy 1 (i8 r.dg)++(cy 8 r.inc++(cy 8 r.num++(cy 1 0++(cy 1 (i8 r.k)++cy 1 (i8 r.n)))))))=(cy 1 r.kind++(r.obj++(cy 1 (i8 r.dg)++(cy 8 r.inc++cy 8 r.num))))++(cy 1 0++(cy 1 (i8 r.k)++cy 1 (i8 r.n))) by simp only [List.append_assoc],
    set_nat (B':=cy 1 1++(cy 1 (i8 r.k)++cy 1 (i8 r.n))) 0 (by simp only [List.length_append, aD, w.obj.1]) rfl]
   simp only [List.append_assoc]
end Go.Proofs.YtjghlcdidopcpaaGreatDoor

namespace Go.Proofs.YtjghlcdidopcpaaGreatDoor
open Go Go.Abs
attribute [local congr] bo
def FrV (h:ai) (w:Nat) (v:Value):Prop := ∀ b,slB v=some b→Fr h w b
structure FrS (h:ai) (w:Nat) (s:dN):Prop where
 a:FrV h w s.a
 b:FrV h w s.b
 c:FrV h w s.c
 d:FrV h w s.d
 e:FrV h w s.e
 f:FrV h w s.f
theorem FrV.ws {h h':ai} {w:Nat} {v:Value} (f:FrV h w v) (k:WS w h h'):FrV h' w v:=fun b hb=>k.fr b (f b hb)
theorem FrS.ws {h h':ai} {w:Nat} {s:dN} (f:FrS h w s) (k:WS w h h'):FrS h' w s:=⟨f.a.ws k,f.b.ws k,f.c.ws k,f.d.ws k,f.e.ws k,f.f.ws k⟩
theorem cH.ws {h h':ai} {ks:List Kd} {v:Value} {n:Nat} {cs:List Value} {w:Nat} (x:cH h ks v n cs) (f:FrV h w v) (k:WS w h h'):cH h' ks v n cs:=by
 obtain ⟨a,c,rfl,h1,h2,h3⟩:=x
 refine ⟨a,c,rfl,h1,h2,fun hn => ?_⟩
 obtain ⟨b,off,s,q,rfl,h4,h5⟩:=h3 hn
 obtain ⟨m,rfl⟩ : ∃ m,n=m+1:=⟨n-1,by omega⟩
 exact ⟨b,off,s,q,rfl,(k.get b (f b rfl)).trans h4,h5⟩
theorem Has.ws {h h':ai} {s:dN} {m:bc} {w:Nat} (x:Has h s m) (f:FrS h w s) (k:WS w h h'):Has h' s m:=⟨⟨x.sl.a.ws f.a k,x.sl.b.ws f.b k,x.sl.c.ws f.c k,x.sl.d.ws f.d k,x.sl.e.ws f.e k,x.sl.f.ws f.f k⟩,x.wf⟩
theorem cH.bytes {h:ai} {v:Value} {l:List Nat} (x:cH h [.u8] v l.length (bZ l)) (hb:dv l) : ∃ a c,v = .slice a l.length c∧ax a l.length h=some l∧(∀ y,a=some y→0<l.length→slB v=some y.block):=by
 obtain ⟨a,c,rfl,h1,h2,h3⟩:=x
 refine ⟨a,c,rfl,?_,fun y hy hn => ?_⟩
 ·by_cases h0:l.length=0
  ·have:l = []:=List.length_eq_zero_iff.1 h0
   subst this
   cases a with
   |none=>rfl
   |some y=>unfold ax bO;simp;rfl
  ·obtain ⟨b,off,s,k,rfl,g,h4,h5⟩:=h3 (by omega)
   have h5:(k.drop off).take (l.length*1)=bZ l:=h5
   have h4:off+l.length*1≤k.length:=h4
   rw [Nat.mul_one] at h4 h5
   have e:k=k.take off++(bZ l++k.drop (off+l.length)):=by rw [←h5,←List.drop_drop,List.take_append_drop,List.take_append_drop]
   exact cC g e (by rw [List.length_take];omega) hb
 ·subst hy
  obtain ⟨m,hm⟩ : ∃ m,l.length=m+1:=⟨l.length-1,by omega⟩
  rw [hm]
  rfl
theorem flat_len {α:Type} {f:α→List Nat} {z:Nat} : ∀ (l:List α),(∀ a∈l,(f a).length=z)→(l.flatMap f).length=l.length*z
 | [],_=>by simp
 |a::l,h=>by
  have ih:=flat_len l (fun b hb=>h b (List.mem_cons_of_mem _ hb))
  rw [List.flatMap_cons,List.length_append,ih,h a (List.mem_cons_self ..),List.length_cons,Nat.add_mul]
  omega
theorem flat_snoc {α:Type} {f:α→List Nat} {l:List α} {i:Nat} {a:α} (h:l[i]? = some a):(l.take (i+1)).flatMap f=(l.take i).flatMap f++f a:=by
 rw [List.take_add_one,h]
 simp
def encMem (m:ee):List Nat:=cy 8 m.inc++cy 1 m.st
def dC (t:List ee):List Nat:=cy 1 t.length++t.flatMap encMem
def text (l:List Nat):List Nat:=cy 2 l.length++l
def bPing (m:bc):List Nat:=cy 8 m.seq++(cy 1 (i8 m.origin)++dC m.table)
def bReq (m:bc):List Nat:=cy 8 m.seq++(cy 1 (i8 m.target)++dC m.table)
def bSum (m:bc):List Nat:=text m.low++(text m.high++(cy 4 (i32 m.count)++m.root))
def fG (m:bc):List Nat:=text m.low++(text m.high++(cy 1 (bit m.want)++(cy 2 m.cR.length++m.cR.flatMap eV)))
def bPiece (m:bc):List Nat:=m.obj++(text (ef m)++(cy 2 (i16 m.de)++text m.data))
def bStored (m:bc):List Nat:=m.obj++cy 2 (i16 m.code)
theorem encMem_len (m:ee):(encMem m).length=9:=by unfold encMem;simp only [List.length_append,aD]
theorem encRec_len {r:bT} (w:r.Wf):(eV r).length=53:=by unfold eV;simp only [List.length_append,aD,w.obj.1]
theorem cl (l:List Nat):(text l).length=2+l.length:=by unfold text;simp only [List.length_append,aD]
theorem encMan_len {m:bc} (w:m.Wf):(ef m).length=39+m.pieces.length*32:=by
 unfold ef
 simp only [List.length_append,aD,w.cK.1,flat_len (f:=id) (z:=32) m.pieces (fun l hl=>(w.pieces l hl).1)]
 omega
theorem el_dig {l:List (List Nat)} {i:Nat} {p:List Nat} (hw : ∀ x∈l,D32 x) (hm:l[i]? = some p):el 32 (l.flatMap bZ) i=bZ p:=by
 have key : ∀ (l:List (List Nat)) (i:Nat),(∀ x∈l,D32 x)→l[i]? = some p→el 32 (l.flatMap bZ) i=bZ p:=by
  intro l
  induction l with
  |nil=>intro i _ h;cases h
  |cons a l ih=>
   intro i hw h
   have ha:(bZ a).length=32:=bU (hw a (List.mem_cons_self ..))
   cases i with
   |zero=>
    cases h
    unfold el
    rw [Nat.zero_mul,List.drop_zero,List.flatMap_cons,←ha,List.take_left]
   |succ i=>
    have h:l[i]? = some p:=h
    have:=ih i (fun x hx=>hw x (List.mem_cons_of_mem _ hx)) h
    unfold el at this ⊢
    rw [List.flatMap_cons,show (i+1)*32=(bZ a).length+i*32 by rw [Nat.add_mul,ha];omega,List.drop_length_add_append]
    exact this
 exact key l i hw hm
theorem is127:bG Tryz.prog 127 Tryz.f127:=⟨by kernel_rfl,by kernel_rfl,by kernel_rfl,by kernel_rfl⟩
theorem results127:Tryz.f127.results.toList = []:=by kernel_rfl
def tbInv (h0:ai) (N w lim:Nat) (L:List Nat) (v:Value) (t:List ee) (k:Nat) (y:Nat→Value) (g:ai):Prop:=
 ∃ i,i+k=t.length∧y 0=ptr w 0∧y 11=v∧y 12=aH t.length∧y 13=aH i∧WS w h0 g∧IsW g N w lim (L++(t.take i).flatMap encMem)
def tbFin (h0:ai) (N w lim:Nat) (L:List Nat) (t:List ee) (ex:Ex) (_:Nat→Value) (g:ai):Prop:=
 ex = .exit 0∧WS w h0 g∧IsW g N w lim (L++t.flatMap encMem)
theorem tbRound {h0:ai} {N w lim:Nat} {L:List Nat} {v:Value} {t:List ee} (x:cH h0 memK v t.length (t.flatMap dm)) (F:FrV h0 w v) (hw : ∀ x∈t,x.Wf) (hl:t.length≤255) (hfit:L.length+t.length*9≤lim) :
  ∀ k y g,tbInv h0 N w lim L v t k y g→ei 26 (tbInv h0 N w lim L v t) (tbFin h0 N w lim L t) k (t127l127_110 CW y g):=by
 rintro k y g ⟨i,hik,y0,y11,y12,y13,K,W⟩
 unfold t127l127_110
 by_cases hi:i<t.length
 ·obtain ⟨b,q,kb,_,a1,_,_,_,a2,_⟩:=(x.ws F K).at hi
  obtain ⟨m,hm⟩ : ∃ m,t[i]? = some m:=⟨t[i],List.getElem?_eq_getElem hi⟩
  have wm:=hw m (List.mem_of_getElem? hm)
  have a1:cn 2 v (aH i)=some (ptr b (q+i*2)):=a1
  have a2:cq 2 (ptr b (q+i*2)) g=some (.agg (el 2 (t.flatMap dm) i).toArray,g):=a2
  rw [el_flat157 hw hm] at a2
  have hlen:((t.take i).flatMap encMem).length=i*9:=by
   rw [flat_len (z:=9) _ (fun a _=>encMem_len a),List.length_take,Nat.min_eq_left (by omega)]
  have hi9:i*9+9≤t.length*9:=mul_le hi
  obtain ⟨g1,z1,o1,q1,n1⟩:=fresh [(.int .u64 0),(.int .u8 0)] g
  have p1:g1.n0≤g.next:=by rw [o1.n0];exact g.aQ
  obtain ⟨g2,t2,k2,q2,_,n2⟩:=cj (n:=2) (k':=dm m) q1 p1 rfl rfl rfl
  have o2:Old g g2:=Old.fL o1 k2 (Nat.le_refl _)
  have W2:=W.bL o2
  have f2:Fr g2 w g.next:=W.fr o2 (Nat.le_refl _) (by omega)
  have l0:aP (ptr g.next 0) g2=some (.int .u64 (m.inc:Int),g2):=aU q2 rfl
  obtain ⟨g3,e3,W3,k3⟩:=r126 W2 (v:=m.inc) (by rw [List.length_append,hlen];omega) wm.inc
  have l1:aP (ptr g.next 1) g3=some (.int .u8 (m.st:Int),g3):=aU ((k3.get _ f2).trans q2) rfl
  obtain ⟨g4,e4,W4,k4⟩:=r50 W3 (v:=m.st) (by rw [List.length_append,List.length_append,hlen,aD];omega) wm.st
  simp -implicitDefEqProofs only [y13, y12, eW, decide_eq_true hi, y11, a1, a2, z1, t2, y0, l0, e3, l1, e4, add31 (show i+1≤9223372036854775807 by omega), ah, ao, aq, Nat.zero_add]
  refine ei.next (k-1) (by omega) ⟨i+1,by omega,y0,y11,y12,rfl,((K.trans (WS.fp W.lt o2)).trans k3).trans k4,?_⟩
  rw [flat_snoc hm]
  show IsW g4 N w lim (L++((t.take i).flatMap encMem++(cy 8 m.inc++cy 1 m.st)))
  simpa only [List.append_assoc] using W4
 ·simp -implicitDefEqProofs only [y13,y12,eW,decide_eq_false hi,ah,ao]
  refine ei.out 0 ⟨rfl,K,?_⟩
  rw [List.take_of_length_le (by omega)] at W
  exact W
theorem r127 {h:ai} {N w lim:Nat} {l:List Nat} {v:Value} {t:List ee} (W:IsW h N w lim l) (x:cH h memK v t.length (t.flatMap dm)) (F:FrV h w v) (hw : ∀ x∈t,x.Wf) (hl:t.length≤255) (hfit:l.length+(1+t.length*9)≤lim) :
  ∃ h',CW 127 [ptr w 0,v] h=some (.tuple #[],h')∧IsW h' N w lim (l++dC t)∧WS w h h':=by
 have hw8:IntKind.wrap .u8 ((t.length:Nat):Int)=(t.length:Int):=wrap_u8 (by omega) (by omega)
 obtain ⟨h1,e1,W1,k1⟩:=r50 W (v:=t.length) (by omega) (by omega)
 have key : ∃ h',t127 CW (ptr w 0) v h=some (.tuple #[],h')∧IsW h' N w lim (l++dC t)∧WS w h h':=by
  unfold t127
  simp -implicitDefEqProofs only [ah,x.len,ao,aH,ba,hw8,e1]
  refine cL (Q:=fun o:Out => ∃ h',o=some (Value.tuple #[],h')∧IsW h' N w lim (l++dC t)∧WS w h h') (cD (t127l127_110_eq CW) (tbRound (L:=l++cy 1 t.length) (N:=N) (lim:=lim) (x.ws F k1) (F.ws k1) hw hl (by rw [List.length_append,aD];omega)) t.length (by have:rounds=18446744073709551616:=rfl;omega)
   ⟨0,Nat.zero_add _,rfl,rfl,rfl,rfl,WS.refl _ _,by simpa using W1⟩) ?_
  rintro ex z g ⟨rfl,K,W'⟩
  rw [bR]
  unfold b127_2
  rw [if_pos rfl,results127]
  refine ⟨g,rfl,?_,k1.trans K⟩
  unfold dC
  simpa only [List.append_assoc] using W'
 obtain ⟨h',e,W',K⟩:=key
 exact ⟨h',ay is127 W.g4 rfl ((t127_eq _ _ _ _).trans e),W',K⟩
theorem is132:bG Tryz.prog 132 Tryz.f132:=⟨by kernel_rfl,by kernel_rfl,by kernel_rfl,by kernel_rfl⟩
theorem b132_exit (C:au) (e:Env) (h:ai):b132_14 C 0 e h=k132_12 C e h:=rfl
def mnInv (h0:ai) (N w lim:Nat) (L:List Nat) (v:Value) (t:List (List Nat)) (k:Nat) (y:Nat→Value) (g:ai):Prop:=
 ∃ i,i+k=t.length∧y 5=ptr w 0∧y 45=v∧y 46=aH t.length∧y 47=aH i∧WS w h0 g∧IsW g N w lim (L++(t.take i).flatMap id)
def mnFin (h0:ai) (N w lim:Nat) (L:List Nat) (t:List (List Nat)) (ex:Ex) (y:Nat→Value) (g:ai):Prop:=
 ex = .exit 0∧y 5=ptr w 0∧WS w h0 g∧IsW g N w lim (L++t.flatMap id)
theorem mnRound {h0:ai} {N w lim:Nat} {L:List Nat} {v:Value} {t:List (List Nat)} (x:cH h0 eg v t.length (t.flatMap bZ)) (F:FrV h0 w v) (hw : ∀ x∈t,D32 x) (hl:t.length≤255) (hfit:L.length+t.length*32≤lim) :
  ∀ k y g,mnInv h0 N w lim L v t k y g→ei 59 (mnInv h0 N w lim L v t) (mnFin h0 N w lim L t) k (c9 CW y g):=by
 rintro k y g ⟨i,hik,y5,y45,y46,y47,K,W⟩
 unfold c9
 by_cases hi:i<t.length
 ·obtain ⟨b,q,kb,_,a1,_,_,_,a2,_⟩:=(x.ws F K).at hi
  obtain ⟨m,hm⟩ : ∃ m,t[i]? = some m:=⟨t[i],List.getElem?_eq_getElem hi⟩
  have wm:=hw m (List.mem_of_getElem? hm)
  have a1:cn 32 v (aH i)=some (ptr b (q+i*32)):=a1
  have a2:cq 32 (ptr b (q+i*32)) g=some (.agg (el 32 (t.flatMap bZ) i).toArray,g):=a2
  rw [el_dig hw hm] at a2
  have hlen:((t.take i).flatMap id).length=i*32:=by
   rw [flat_len (f:=id) (z:=32) _ (fun a ha=>(hw a (List.mem_of_mem_take ha)).1),List.length_take,Nat.min_eq_left (by omega)]
  have hi9:i*32+32≤t.length*32:=mul_le hi
  obtain ⟨g1,z1,o1,q1,n1⟩:=fresh (List.replicate 32 (.int .u8 0)) g
  have p1:g1.n0≤g.next:=by rw [o1.n0];exact g.aQ
  obtain ⟨g2,t2,k2,q2,_,n2⟩:=cj (n:=32) (k':=bZ m) q1 p1 rfl (bU wm) (dR m).2
  have o2:Old g g2:=Old.fL o1 k2 (Nat.le_refl _)
  have W2:=W.bL o2
  have f2:Fr g2 w g.next:=W.fr o2 (Nat.le_refl _) (by omega)
  have sb:ax (some ⟨g.next,0,none⟩) m.length g2=some m:=cC (A := []) (C := []) q2 (by simp) rfl wm.2
  obtain ⟨g3,e3,W3,k3⟩:=r52 W2 (c:=32) sb (fun y hy _=>by cases hy;exact f2) (by rw [List.length_append,hlen,wm.1];omega)
  rw [wm.1] at e3
  simp -implicitDefEqProofs only [y47, y46, eW, decide_eq_true hi, y45, a1, a2, z1, t2, y5, arr32, e3, add31 (show i+1≤9223372036854775807 by omega), ah, ao]
  refine ei.next (k-1) (by omega) ⟨i+1,by omega,y5,y45,y46,rfl,(K.trans (WS.fp W.lt o2)).trans k3,?_⟩
  rw [flat_snoc hm,←List.append_assoc]
  exact W3
 ·simp -implicitDefEqProofs only [y47,y46,eW,decide_eq_false hi,ah,ao]
  refine ei.out 0 ⟨rfl,y5,K,?_⟩
  rw [List.take_of_length_le (by omega)] at W
  exact W
theorem man_fine {m:bc} (v:manBad m=false):1≤m.gk∧m.gk≤m.gn∧m.gn≤m.gt∧m.gt≤255∧0≤m.gs∧m.gs≤8192∧(m.pieces.length:Int)=m.gt:=by
 unfold manBad sizesB at v
 simp only [Bool.or_eq_false_iff,Bool.not_eq_false',Bool.and_eq_true,decide_eq_true_eq,decide_eq_false_iff_not,bne_eq_false_iff_eq] at v
 omega
set_option maxRecDepth 100000 in
theorem r132 {h:ai} {s:dN} {m:bc} (hG:4≤h.n0) (x:Has h s m) (v:manBad m=false) : ∃ a c h',CW 132 [gv m s] h=some (.tuple #[.slice a (ef m).length c,.int .i64 0],h')∧ax a (ef m).length h'=some (ef m)∧Old h h'∧(∀ y,a=some y→h.next≤y.block):=by
 have mo:=man_ok x.sl (bc.ok x.wf)
 obtain ⟨v1,v2,v3,v4,v5,v6,v7⟩:=man_fine v
 obtain ⟨h1,b1,o1,g1,n1⟩ : ∃ h1,box (gv m s) h=some (ptr h.next 0,h1)∧Old h h1∧h1.get h.next=some (m.d.eu s)∧h1.next=h.next+1:=
  ⟨_,dP h (m.d.eu s) mo.2.1,Kept.alloc _ _ _,by rw [ai.aN,if_pos rfl],rfl⟩
 have hG1:4≤h1.n0:=by rw [o1.n0];exact hG
 have l37:cq 37 (ptr h.next 0) h1=some (gv m s,h1):=ek g1 mo.2.2 mo.1
 obtain ⟨h2,e2,o2⟩:=r131 hG1 (x.bL o1)
 rw [v] at e2
 have O2:=o1.trans o2
 have m2:=o2.next
 have hmul:bin Tryz.prog .mul 3 (.int .i64 32) (.int .i64 m.gt)=some (.int .i64 (32*m.gt)):=by
  rw [bin_mul,wrap_i64 (by omega) (by omega)]
 have hadd:bin Tryz.prog .add 3 (.int .i64 39) (.int .i64 (32*m.gt))=some (aH (39+m.pieces.length*32)):=by
  rw [bin_add,wrap_i64 (by omega) (by omega)]
  exact congrArg (fun z=>some (Value.int .i64 z)) (by omega)
 obtain ⟨h3,e3,W3,o3,F3⟩:=r47 h2 (by rw [O2.n0];exact hG) (lim:=39+m.pieces.length*32) (by omega)
 have fb:Fr h3 h2.next h.next:=F3 _ (by omega)
 have g2:=Old.get o2 g1
 have gb:h3.get h.next=some (m.d.eu s):=Old.get o3 g2
 have K3:WS h2.next h3 h3:=WS.refl _ _
 have l2:aP (ptr h.next 2) h2=some (.int .i64 m.gt,h2):=aU g2 rfl
 obtain ⟨h4,e4,W4,k4⟩:=r49 W3 (v:=19713) (by simp only [List.length_nil];omega) (by decide)
 have K4:=K3.trans k4
 have A4:=(man_ld x.sl (bc.ok x.wf) ((K4.get _ fb).trans gb))
 obtain ⟨h5,e5,W5,k5⟩:=r50 W4 (v:=i8 m.gk) (by simp only [List.length_append, aD, List.length_nil];omega) (i8_lt _)
 have K5:=K4.trans k5
 have A5:=(man_ld x.sl (bc.ok x.wf) ((K5.get _ fb).trans gb))
 obtain ⟨h6,e6,W6,k6⟩:=r50 W5 (v:=i8 m.gn) (by simp only [List.length_append, aD, List.length_nil];omega) (i8_lt _)
 have K6:=K5.trans k6
 have A6:=(man_ld x.sl (bc.ok x.wf) ((K6.get _ fb).trans gb))
 obtain ⟨h7,e7,W7,k7⟩:=r50 W6 (v:=i8 m.gt) (by simp only [List.length_append, aD, List.length_nil];omega) (i8_lt _)
 have K7:=K6.trans k7
 have A7:=(man_ld x.sl (bc.ok x.wf) ((K7.get _ fb).trans gb))
 obtain ⟨h8,e8,W8,k8⟩:=r49 W7 (v:=i16 m.gs) (by simp only [List.length_append, aD, List.length_nil];omega) (i16_lt _)
 have K8:=K7.trans k8
 have A8:=(man_ld x.sl (bc.ok x.wf) ((K8.get _ fb).trans gb))
 obtain ⟨h9,e9,W9,k9⟩:=r52 W8 (n:=m.cK.length) (c:=32) (cC (off:=4) (s:=none) ((K8.get _ fb).trans gb) (A := [.int .i64 m.gk,.int .i64 m.gn,.int .i64 m.gt,.int .i64 m.gs]) rfl rfl x.wf.cK.2) (fun y hy _=>by cases hy;exact K8.fr _ fb) (by simp only [List.length_append, aD, List.length_nil, x.wf.cK.1];omega)
 have K9:=K8.trans k9
 have A9:=(man_ld x.sl (bc.ok x.wf) ((K9.get _ fb).trans gb))
 rw [x.wf.cK.1] at e9
 have g9:h9.get h.next=some (m.d.eu s):=(K9.get _ fb).trans gb
 have j0:aP (ptr h.next 0) h4=some (.int .i64 m.gk,h4):=A4.l0
 have j1:aP (ptr h.next 1) h5=some (.int .i64 m.gn,h5):=A5.l1
 have j2:aP (ptr h.next 2) h6=some (.int .i64 m.gt,h6):=A6.l2
 have j3:aP (ptr h.next 3) h7=some (.int .i64 m.gs,h7):=A7.l3
 have x3:=x.sl.e.bL (O2.trans o3)
 have Fe:FrV h3 h2.next s.e:=fun b hb=>F3 b (Nat.lt_of_lt_of_le (x.sl.e.lt hb) (Nat.le_trans O2.next (Nat.le_refl _)))
 have hL:(((((([]++cy 2 19713)++cy 1 (i8 m.gk))++cy 1 (i8 m.gn))++cy 1 (i8 m.gt))++cy 2 (i16 m.gs))++m.cK).length=39:=by simp only [List.length_append, aD, List.length_nil, x.wf.cK.1]
 have e4:CW 49 [ptr h2.next 0,.int .u16 19713] h3=some (.tuple #[],h4):=e4
 have z35:bin Tryz.prog .neq 35 (.int .i64 0) (.int .i64 0)=some (.bool false):=by rw [aB];rfl
 have key : ∃ a c h',t132 CW (gv m s) h=some (.tuple #[.slice a (ef m).length c,.int .i64 0],h')∧ax a (ef m).length h'=some (ef m)∧Old h h'∧(∀ y,a=some y→h.next≤y.block):=by
  unfold t132
  simp -implicitDefEqProofs only [b1, l37, e2, if_false, Bool.false_eq_true, z35, l2, hmul, hadd, e3, e4, j0, wrap_i8, wrap_i16, ba, e5, j1, e6, j2, e7, j3, e8, arr32, e9, A9.eT, x.len.2.2.2.2.1, ah, ao, aq, Nat.zero_add]
  refine cL (Q:=fun o:Out => ∃ a c h',o=some (Value.tuple #[.slice a (ef m).length c,.int .i64 0],h')∧ax a (ef m).length h'=some (ef m)∧Old h h'∧(∀ y,a=some y→h.next≤y.block)) (cD (t132l132_111111111010_eq CW) (mnRound (N:=h2.next) (w:=h2.next) (lim:=39+m.pieces.length*32) (x3.ws Fe K9) (Fe.ws K9) x.wf.pieces (by omega) (by rw [hL];exact Nat.le_refl _)) m.pieces.length (by have:rounds=18446744073709551616:=rfl;omega)
   ⟨0,Nat.zero_add _,rfl,rfl,rfl,rfl,WS.refl _ _,by simpa using W9⟩) ?_
  rintro ex z g ⟨rfl,z5,K,W'⟩
  rw [bR,b132_exit,t132k132_12_eq]
  unfold t132k132_12
  have hE:(((((([]++cy 2 19713)++cy 1 (i8 m.gk))++cy 1 (i8 m.gn))++cy 1 (i8 m.gt))++cy 2 (i16 m.gs))++m.cK)++m.pieces.flatMap id=ef m:=by
   unfold ef
   simp only [List.append_assoc,List.nil_append]
  rw [hE] at W'
  obtain ⟨a,c,h',e,sb,_,o,f⟩:=r48 W' (by rw [encMan_len x.wf];omega)
  have KK:=K9.trans K
  refine ⟨a,c,h',by simp -implicitDefEqProofs only [z5,e,eN,eP,ah,ao],sb,?_,fun y hy => ?_⟩
  ·refine ⟨by rw [o.n0,KK.n0,o3.n0,O2.n0],Nat.le_trans O2.next (Nat.le_trans o3.next (Nat.le_trans KK.next o.next)),fun d hd _ => ?_⟩
   have hd2:d<h2.next:=Nat.lt_of_lt_of_le hd O2.next
   have f3:=F3 d hd2
   exact (Kept.get o d (Nat.lt_of_lt_of_le f3.1 KK.next) (fun h=>h)).trans ((KK.get d f3).trans ((Kept.get o3 d hd2 (fun h=>h)).trans (Kept.get O2 d hd (fun h=>h))))
  ·have:=f y hy
   have:=Nat.le_trans O2.next (Nat.le_trans o3.next KK.next)
   omega
 obtain ⟨a,c,h',e,r1,r2,r3⟩:=key
 exact ⟨a,c,h',ay is132 hG rfl ((t132_eq _ _ _).trans e),r1,r2,r3⟩
end Go.Proofs.YtjghlcdidopcpaaGreatDoor

namespace Go.Proofs.YtjghlcdidopcpaaGreatDoor
open Go Go.Abs
attribute [local congr] bo
theorem bp (t:List ee):(dC t).length=1+t.length*9:=by
 unfold dC
 rw [List.length_append,aD,flat_len (z:=9) _ (fun a _=>encMem_len a)]
theorem eB {t:List bT} (hw : ∀ x∈t,x.Wf):(t.flatMap eV).length=t.length*53:=flat_len (z:=53) _ (fun a ha=>encRec_len (hw a ha))
theorem is97:bG Tryz.prog 97 Tryz.f97:=⟨by kernel_rfl,by kernel_rfl,by kernel_rfl,by kernel_rfl⟩
set_option maxRecDepth 100000 in
theorem r97 {h:ai} {N w lim:Nat} {l:List Nat} {s:dN} {m:bc} (W:IsW h N w lim l) (x:Has h s m) (F:FrS h w s) (ht:m.table.length≤255) (hfit:l.length+(bPing m).length≤lim) : ∃ h',CW 97 [ptr w 0,mv m s] h=some (.tuple #[],h')∧IsW h' N w lim (l++bPing m)∧WS w h h':=by
 obtain ⟨h1,b1,o1,x1,A1,n1,-⟩:=eU x
 have W1:=W.bL o1
 have k1:=WS.fp W.lt o1
 have K1:=k1
 have fb:Fr h1 w h.next:=W.fr o1 (Nat.le_refl _) (by omega)
 have gb:=A1.g
 have F1:=F.ws K1
 have J1:WS w h1 h1:=WS.refl _ _
 obtain ⟨h2,e2,W2,k2⟩:=r126 W1 (v:=m.seq) (by unfold bPing at hfit;simp only [List.length_append, aD, bp] at hfit ⊢;omega) x.wf.seq
 have J2:=J1.trans k2
 have A2:=cS x ((J2.get _ fb).trans gb)
 obtain ⟨h3,e3,W3,k3⟩:=r50 W2 (v:=i8 m.origin) (by unfold bPing at hfit;simp only [List.length_append, aD, bp] at hfit ⊢;omega) (i8_lt _)
 have J3:=J2.trans k3
 have A3:=cS x ((J3.get _ fb).trans gb)
 obtain ⟨h4,e4,W4,k4⟩:=r127 W3 (x1.sl.a.ws F1.a J3) (F1.a.ws J3) x.wf.table ht (by unfold bPing at hfit;simp only [List.length_append, aD, bp] at hfit ⊢;omega)
 have J4:=J3.trans k4
 have A4:=cS x ((J4.get _ fb).trans gb)
 refine ⟨h4,ay is97 W.g4 rfl ((t97_eq _ _ _ _).trans ?_),?_,K1.trans J4⟩
 ·unfold t97
  simp -implicitDefEqProofs only [b1, A1.l3, A2.l4, A3.l6, ba, wrap_i8, e2, e3, e4, ah, ao, aq, Nat.zero_add]
 ·unfold bPing
  simpa only [List.append_assoc] using W4
theorem is100:bG Tryz.prog 100 Tryz.f100:=⟨by kernel_rfl,by kernel_rfl,by kernel_rfl,by kernel_rfl⟩
set_option maxRecDepth 100000 in
theorem r100 {h:ai} {N w lim:Nat} {l:List Nat} {s:dN} {m:bc} (W:IsW h N w lim l) (x:Has h s m) (F:FrS h w s) (ht:m.table.length≤255) (hfit:l.length+(bReq m).length≤lim) : ∃ h',CW 100 [ptr w 0,mv m s] h=some (.tuple #[],h')∧IsW h' N w lim (l++bReq m)∧WS w h h':=by
 obtain ⟨h1,b1,o1,x1,A1,n1,-⟩:=eU x
 have W1:=W.bL o1
 have k1:=WS.fp W.lt o1
 have K1:=k1
 have fb:Fr h1 w h.next:=W.fr o1 (Nat.le_refl _) (by omega)
 have gb:=A1.g
 have F1:=F.ws K1
 have J1:WS w h1 h1:=WS.refl _ _
 obtain ⟨h2,e2,W2,k2⟩:=r126 W1 (v:=m.seq) (by unfold bReq at hfit;simp only [List.length_append, aD, bp] at hfit ⊢;omega) x.wf.seq
 have J2:=J1.trans k2
 have A2:=cS x ((J2.get _ fb).trans gb)
 obtain ⟨h3,e3,W3,k3⟩:=r50 W2 (v:=i8 m.target) (by unfold bReq at hfit;simp only [List.length_append, aD, bp] at hfit ⊢;omega) (i8_lt _)
 have J3:=J2.trans k3
 have A3:=cS x ((J3.get _ fb).trans gb)
 obtain ⟨h4,e4,W4,k4⟩:=r127 W3 (x1.sl.a.ws F1.a J3) (F1.a.ws J3) x.wf.table ht (by unfold bReq at hfit;simp only [List.length_append, aD, bp] at hfit ⊢;omega)
 have J4:=J3.trans k4
 have A4:=cS x ((J4.get _ fb).trans gb)
 refine ⟨h4,ay is100 W.g4 rfl ((t100_eq _ _ _ _).trans ?_),?_,K1.trans J4⟩
 ·unfold t100
  simp -implicitDefEqProofs only [b1, A1.l3, A2.l5, A3.l6, ba, wrap_i8, e2, e3, e4, ah, ao, aq, Nat.zero_add]
 ·unfold bReq
  simpa only [List.append_assoc] using W4
def sObjB (m:bc):List Nat:=m.obj
theorem is104:bG Tryz.prog 104 Tryz.f104:=⟨by kernel_rfl,by kernel_rfl,by kernel_rfl,by kernel_rfl⟩
set_option maxRecDepth 100000 in
theorem r104 {h:ai} {N w lim:Nat} {l:List Nat} {s:dN} {m:bc} (W:IsW h N w lim l) (x:Has h s m) (F:FrS h w s) (hfit:l.length+(sObjB m).length≤lim) : ∃ h',CW 104 [ptr w 0,mv m s] h=some (.tuple #[],h')∧IsW h' N w lim (l++sObjB m)∧WS w h h':=by
 obtain ⟨h1,b1,o1,x1,A1,n1,-⟩:=eU x
 have W1:=W.bL o1
 have k1:=WS.fp W.lt o1
 have K1:=k1
 have fb:Fr h1 w h.next:=W.fr o1 (Nat.le_refl _) (by omega)
 have gb:=A1.g
 have F1:=F.ws K1
 have J1:WS w h1 h1:=WS.refl _ _
 obtain ⟨h2,e2,W2,k2⟩:=r52 W1 (n:=m.obj.length) (c:=32) (cC (off:=44) (s:=none) ((J1.get _ fb).trans gb) (A:=m.d.front s++(bZ m.root ++ [s.d,.bool m.want])) (C:=m.d.eu s ++ [.int .i64 m.de,s.f,.int .i64 m.code]) (by unfold bI.cells;simp only [List.append_assoc];rfl) (by rw [List.length_append,List.length_append,bU x.wf.root];rfl) x.wf.obj.2) (fun y hy _=>by cases hy;exact J1.fr _ fb) (by unfold sObjB at hfit;omega)
 have J2:=J1.trans k2
 have A2:=cS x ((J2.get _ fb).trans gb)
 have e2:CW 52 [ptr w 0,.slice (some ⟨h.next,44,none⟩) 32 32] h1=some (.tuple #[],h2):=by
  rw [x.wf.obj.1] at e2
  exact e2
 refine ⟨h2,ay is104 W.g4 rfl ((t104_eq _ _ _ _).trans ?_),?_,K1.trans J2⟩
 ·unfold t104
  simp -implicitDefEqProofs only [b1, arr32, e2, ah, ao, aq, Nat.zero_add]
 ·unfold sObjB
  simpa only [List.append_assoc] using W2
theorem is120:bG Tryz.prog 120 Tryz.f120:=⟨by kernel_rfl,by kernel_rfl,by kernel_rfl,by kernel_rfl⟩
set_option maxRecDepth 100000 in
theorem r120 {h:ai} {N w lim:Nat} {l:List Nat} {s:dN} {m:bc} (W:IsW h N w lim l) (x:Has h s m) (F:FrS h w s) (hfit:l.length+(bStored m).length≤lim) : ∃ h',CW 120 [ptr w 0,mv m s] h=some (.tuple #[],h')∧IsW h' N w lim (l++bStored m)∧WS w h h':=by
 obtain ⟨h1,b1,o1,x1,A1,n1,-⟩:=eU x
 have W1:=W.bL o1
 have k1:=WS.fp W.lt o1
 have K1:=k1
 have fb:Fr h1 w h.next:=W.fr o1 (Nat.le_refl _) (by omega)
 have gb:=A1.g
 have F1:=F.ws K1
 have J1:WS w h1 h1:=WS.refl _ _
 obtain ⟨h2,e2,W2,k2⟩:=r52 W1 (n:=m.obj.length) (c:=32) (cC (off:=44) (s:=none) ((J1.get _ fb).trans gb) (A:=m.d.front s++(bZ m.root ++ [s.d,.bool m.want])) (C:=m.d.eu s ++ [.int .i64 m.de,s.f,.int .i64 m.code]) (by unfold bI.cells;simp only [List.append_assoc];rfl) (by rw [List.length_append,List.length_append,bU x.wf.root];rfl) x.wf.obj.2) (fun y hy _=>by cases hy;exact J1.fr _ fb) (by unfold bStored at hfit;simp only [List.length_append, aD] at hfit ⊢;omega)
 have J2:=J1.trans k2
 have A2:=cS x ((J2.get _ fb).trans gb)
 obtain ⟨h3,e3,W3,k3⟩:=r49 W2 (v:=i16 m.code) (by unfold bStored at hfit;simp only [List.length_append, aD] at hfit ⊢;omega) (i16_lt _)
 have J3:=J2.trans k3
 have A3:=cS x ((J3.get _ fb).trans gb)
 have e2:CW 52 [ptr w 0,.slice (some ⟨h.next,44,none⟩) 32 32] h1=some (.tuple #[],h2):=by
  rw [x.wf.obj.1] at e2
  exact e2
 refine ⟨h3,ay is120 W.g4 rfl ((t120_eq _ _ _ _).trans ?_),?_,K1.trans J3⟩
 ·unfold t120
  simp -implicitDefEqProofs only [b1, A2.aW, ba, wrap_i16, arr32, e2, e3, ah, ao, aq, Nat.zero_add]
 ·unfold bStored
  simpa only [List.append_assoc] using W3
theorem is113:bG Tryz.prog 113 Tryz.f113:=⟨by kernel_rfl,by kernel_rfl,by kernel_rfl,by kernel_rfl⟩
set_option maxRecDepth 100000 in
theorem r113 {h:ai} {N w lim:Nat} {l:List Nat} {s:dN} {m:bc} (W:IsW h N w lim l) (x:Has h s m) (F:FrS h w s) (hlo:m.low.length≤34) (hhi:m.high.length≤34) (hfit:l.length+(bSum m).length≤lim) : ∃ h',CW 113 [ptr w 0,mv m s] h=some (.tuple #[],h')∧IsW h' N w lim (l++bSum m)∧WS w h h':=by
 obtain ⟨h1,b1,o1,x1,A1,n1,-⟩:=eU x
 have W1:=W.bL o1
 have k1:=WS.fp W.lt o1
 have K1:=k1
 have fb:Fr h1 w h.next:=W.fr o1 (Nat.le_refl _) (by omega)
 have gb:=A1.g
 have F1:=F.ws K1
 have J1:WS w h1 h1:=WS.refl _ _
 obtain ⟨ab,cb,vb,sb,tb⟩:=x.sl.b.bytes x.wf.low
 obtain ⟨ac,cc,vc,sc,tc⟩:=x.sl.c.bytes x.wf.high
 obtain ⟨h2,e2,W2,k2⟩:=r133 W1 (c:=cb) ((k1.trans J1).bytes sb (fun y hy hn=>F.b _ (tb y hy hn))) (fun y hy hn=>(k1.trans J1).fr _ (F.b _ (tb y hy hn))) (by unfold bSum at hfit;simp only [List.length_append, aD, cl] at hfit ⊢;omega) (by omega)
 have J2:=J1.trans k2
 have A2:=cS x ((J2.get _ fb).trans gb)
 obtain ⟨h3,e3,W3,k3⟩:=r133 W2 (c:=cc) ((k1.trans J2).bytes sc (fun y hy hn=>F.c _ (tc y hy hn))) (fun y hy hn=>(k1.trans J2).fr _ (F.c _ (tc y hy hn))) (by unfold bSum at hfit;simp only [List.length_append, aD, cl] at hfit ⊢;omega) (by omega)
 have J3:=J2.trans k3
 have A3:=cS x ((J3.get _ fb).trans gb)
 obtain ⟨h4,e4,W4,k4⟩:=r51 W3 (v:=i32 m.count) (by unfold bSum at hfit;simp only [List.length_append, aD, cl] at hfit ⊢;omega) (i32_lt _)
 have J4:=J3.trans k4
 have A4:=cS x ((J4.get _ fb).trans gb)
 obtain ⟨h5,e5,W5,k5⟩:=r52 W4 (n:=m.root.length) (c:=32) (cC (off:=10) (s:=none) ((J4.get _ fb).trans gb) (A:=m.d.front s) rfl rfl x.wf.root.2) (fun y hy _=>by cases hy;exact J4.fr _ fb) (by unfold bSum at hfit;simp only [List.length_append, aD, cl] at hfit ⊢;omega)
 have J5:=J4.trans k5
 have A5:=cS x ((J5.get _ fb).trans gb)
 rw [←vb] at e2
 rw [←vc] at e3
 have e5:CW 52 [ptr w 0,.slice (some ⟨h.next,10,none⟩) 32 32] h4=some (.tuple #[],h5):=by
  rw [x.wf.root.1] at e5
  exact e5
 refine ⟨h5,ay is113 W.g4 rfl ((t113_eq _ _ _ _).trans ?_),?_,K1.trans J5⟩
 ·unfold t113
  simp -implicitDefEqProofs only [b1, A1.l7, A2.l8, A3.l9, ba, wrap_i32, arr32, e2, e3, e4, e5, ah, ao, aq, Nat.zero_add]
 ·unfold bSum text
  simpa only [List.append_assoc] using W5
theorem is108:bG Tryz.prog 108 Tryz.f108:=⟨by kernel_rfl,by kernel_rfl,by kernel_rfl,by kernel_rfl⟩
set_option maxRecDepth 100000 in
theorem r108 {h:ai} {N w lim:Nat} {l:List Nat} {s:dN} {m:bc} (W:IsW h N w lim l) (x:Has h s m) (F:FrS h w s) (hm:manBad m=false) (hd:m.data.length≤8192) (hfit:l.length+(bPiece m).length≤lim) : ∃ h',CW 108 [ptr w 0,mv m s] h=some (.tuple #[],h')∧IsW h' N w lim (l++bPiece m)∧WS w h h':=by
 obtain ⟨h1,b1,o1,x1,A1,n1,-⟩:=eU x
 have W1:=W.bL o1
 have k1:=WS.fp W.lt o1
 have K1:=k1
 have fb:Fr h1 w h.next:=W.fr o1 (Nat.le_refl _) (by omega)
 have gb:=A1.g
 have F1:=F.ws K1
 have J1:WS w h1 h1:=WS.refl _ _
 have hG1:4≤h1.n0:=W1.g4
 obtain ⟨am,cm,h2,em,sm,om,fm⟩:=r132 hG1 x1 hm
 have W2:=W1.bL om
 have J2:WS w h1 h2:=WS.fp W1.lt om
 have A2:=cS x ((J2.get _ fb).trans gb)
 have Fm : ∀ y,am=some y→0<(ef m).length→Fr h2 w y.block:=fun y hy hn=>W1.fr om (fm y hy) (by
  obtain ⟨b,off,s',k,e,g,_⟩:=(aA sm).2.2 hn
  rw [hy] at e
  cases e
  exact h2.bh g)
 obtain ⟨af,cf,vf,sf_,tf⟩:=x.sl.f.bytes x.wf.data
 have hml:=encMan_len x.wf
 obtain ⟨h3,e3,W3,k3⟩:=r52 W2 (n:=m.obj.length) (c:=32) (cC (off:=44) (s:=none) ((J2.get _ fb).trans gb) (A:=m.d.front s++(bZ m.root ++ [s.d,.bool m.want])) (C:=m.d.eu s ++ [.int .i64 m.de,s.f,.int .i64 m.code]) (by unfold bI.cells;simp only [List.append_assoc];rfl) (by rw [List.length_append,List.length_append,bU x.wf.root];rfl) x.wf.obj.2) (fun y hy _=>by cases hy;exact J2.fr _ fb) (by unfold bPiece at hfit;simp only [List.length_append, aD, cl, hml] at hfit ⊢;omega)
 have J3:=J2.trans k3
 have A3:=cS x ((J3.get _ fb).trans gb)
 obtain ⟨h4,e4,W4,k4⟩:=r133 W3 (c:=cm) (k3.bytes sm Fm) (fun y hy hn=>k3.fr _ (Fm y hy hn)) (by unfold bPiece at hfit;simp only [List.length_append, aD, cl, hml] at hfit ⊢;omega) (by rw [hml];have:=man_fine hm;omega)
 have J4:=J3.trans k4
 have A4:=cS x ((J4.get _ fb).trans gb)
 obtain ⟨h5,e5,W5,k5⟩:=r49 W4 (v:=i16 m.de) (by unfold bPiece at hfit;simp only [List.length_append, aD, cl, hml] at hfit ⊢;omega) (i16_lt _)
 have J5:=J4.trans k5
 have A5:=cS x ((J5.get _ fb).trans gb)
 obtain ⟨h6,e6,W6,k6⟩:=r133 W5 (c:=cf) ((k1.trans J5).bytes sf_ (fun y hy hn=>F.f _ (tf y hy hn))) (fun y hy hn=>(k1.trans J5).fr _ (F.f _ (tf y hy hn))) (by unfold bPiece at hfit;simp only [List.length_append, aD, cl, hml] at hfit ⊢;omega) (by omega)
 have J6:=J5.trans k6
 have A6:=cS x ((J6.get _ fb).trans gb)
 rw [←vf] at e6
 have e3:CW 52 [ptr w 0,.slice (some ⟨h.next,44,none⟩) 32 32] h2=some (.tuple #[],h3):=by
  rw [x.wf.obj.1] at e3
  exact e3
 refine ⟨h6,ay is108 W.g4 rfl ((t108_eq _ _ _ _).trans ?_),?_,K1.trans J6⟩
 ·unfold t108
  simp -implicitDefEqProofs only [b1, A1.bY, em, eN, eP, A4.aV, A5.aT, ba, wrap_i16, arr32, e3, e4, e5, e6, ah, ao, aq, Nat.zero_add, Nat.reduceAdd]
 ·unfold bPiece text
  simpa only [List.append_assoc] using W6
theorem is116:bG Tryz.prog 116 Tryz.f116:=⟨by kernel_rfl,by kernel_rfl,by kernel_rfl,by kernel_rfl⟩
theorem results116:Tryz.f116.results.toList = []:=by kernel_rfl
def itInv (h0:ai) (N w lim:Nat) (L:List Nat) (v:Value) (t:List bT) (k:Nat) (y:Nat→Value) (g:ai):Prop:=
 ∃ i,i+k=t.length∧y 0=ptr w 0∧y 29=v∧y 30=aH t.length∧y 31=aH i∧WS w h0 g∧IsW g N w lim (L++(t.take i).flatMap eV)
def itFin (h0:ai) (N w lim:Nat) (L:List Nat) (t:List bT) (ex:Ex) (_:Nat→Value) (g:ai):Prop:=
 ex = .exit 0∧WS w h0 g∧IsW g N w lim (L++t.flatMap eV)
theorem itRound {h0:ai} {N w lim:Nat} {L:List Nat} {v:Value} {t:List bT} (x:cH h0 recK v t.length (t.flatMap recC)) (F:FrV h0 w v) (hw : ∀ x∈t,x.Wf) (hv : ∀ x∈t,recB x=true) (hl:t.length≤255) (hfit:L.length+t.length*53≤lim) :
  ∀ k y g,itInv h0 N w lim L v t k y g→ei 44 (itInv h0 N w lim L v t) (itFin h0 N w lim L t) k (eK CW y g):=by
 rintro k y g ⟨i,hik,y0,y29,y30,y31,K,W⟩
 unfold eK
 by_cases hi:i<t.length
 ·obtain ⟨b,q,kb,_,a1,_,_,_,a2,_⟩:=(x.ws F K).at hi
  obtain ⟨m,hm⟩ : ∃ m,t[i]? = some m:=⟨t[i],List.getElem?_eq_getElem hi⟩
  have hmem:=List.mem_of_getElem? hm
  have wm:=hw m hmem
  have a1:cn 39 v (aH i)=some (ptr b (q+i*39)):=a1
  have a2:cq 39 (ptr b (q+i*39)) g=some (.agg (el 39 (t.flatMap recC) i).toArray,g):=a2
  rw [el_flat150 hw hm] at a2
  have hlen:((t.take i).flatMap eV).length=i*53:=by
   rw [eB (fun a ha=>hw a (List.mem_of_mem_take ha)),List.length_take,Nat.min_eq_left (by omega)]
  have hi9:i*53+53≤t.length*53:=mul_le hi
  obtain ⟨g1,z1,o1,q1,n1⟩:=fresh [(.int .u8 0),(.int .u8 0),(.int .u8 0),(.int .u8 0),(.int .u8 0),(.int .u8 0),(.int .u8 0),(.int .u8 0),(.int .u8 0),(.int .u8 0),(.int .u8 0),(.int .u8 0),(.int .u8 0),(.int .u8 0),(.int .u8 0),(.int .u8 0),(.int .u8 0),(.int .u8 0),(.int .u8 0),(.int .u8 0),(.int .u8 0),(.int .u8 0),(.int .u8 0),(.int .u8 0),(.int .u8 0),(.int .u8 0),(.int .u8 0),(.int .u8 0),(.int .u8 0),(.int .u8 0),(.int .u8 0),(.int .u8 0),(.int .u8 0),(.int .i64 0),(.int .u64 0),(.int .u64 0),(.bool false),(.int .i64 0),(.int .i64 0)] g
  have p1:g1.n0≤g.next:=by rw [o1.n0];exact g.aQ
  obtain ⟨g2,t2,k2,q2,_,n2⟩:=cj (n:=39) (k':=recC m) q1 p1 rfl (bA wm).1 (bA wm).2.2
  have o2:Old g g2:=Old.fL o1 k2 (Nat.le_refl _)
  have W2:=W.bL o2
  have l0:cq 39 (ptr g.next 0) g2=some (.agg (recC m).toArray,g2):=ek q2 (bA wm).1 (bA wm).2.1
  obtain ⟨a,c,g3,e3,sb,o3,f3⟩:=r139 W2.g4 wm (hv m hmem)
  have W3:=W2.bL o3
  have Fa : ∀ y,a=some y→0<53→Fr g3 w y.block:=fun y hy hn=>W2.fr o3 (f3 y hy) (by
   obtain ⟨b,off,s',k,e,g,_⟩:=(aA sb).2.2 hn
   rw [hy] at e
   cases e
   exact g3.bh g)
  obtain ⟨g4,e4,W4,k4⟩:=r52 W3 (c:=c) sb Fa (by rw [List.length_append,hlen];omega)
  simp -implicitDefEqProofs only [y31, y30, eW, decide_eq_true hi, y29, a1, a2, z1, t2, l0, e3, eN, eP, y0, e4, add31 (show i+1≤9223372036854775807 by omega), ah, ao]
  refine ei.next (k-1) (by omega) ⟨i+1,by omega,y0,y29,y30,rfl,((K.trans (WS.fp W.lt o2)).trans (WS.fp W2.lt o3)).trans k4,?_⟩
  rw [flat_snoc hm,←List.append_assoc]
  exact W4
 ·simp -implicitDefEqProofs only [y31,y30,eW,decide_eq_false hi,ah,ao]
  refine ei.out 0 ⟨rfl,K,?_⟩
  rw [List.take_of_length_le (by omega)] at W
  exact W
set_option maxRecDepth 100000 in
theorem r116 {h:ai} {N w lim:Nat} {l:List Nat} {s:dN} {m:bc} (W:IsW h N w lim l) (x:Has h s m) (F:FrS h w s) (hlo:m.low.length≤34) (hhi:m.high.length≤34) (hr:m.cR.length≤64) (hv : ∀ x∈m.cR,recB x=true) (hfit:l.length+(fG m).length≤lim) : ∃ h',CW 116 [ptr w 0,mv m s] h=some (.tuple #[],h')∧IsW h' N w lim (l++fG m)∧WS w h h':=by
 obtain ⟨h1,b1,o1,x1,A1,n1,-⟩:=eU x
 have W1:=W.bL o1
 have k1:=WS.fp W.lt o1
 have fb:Fr h1 w h.next:=W.fr o1 (Nat.le_refl _) (by omega)
 have gb:=A1.g
 have J1:WS w h1 h1:=WS.refl _ _
 obtain ⟨ab,cb,vb,sb,tb⟩:=x.sl.b.bytes x.wf.low
 obtain ⟨ac,cc,vc,sc,tc⟩:=x.sl.c.bytes x.wf.high
 obtain ⟨h2,e2,W2,k2⟩:=r133 W1 (c:=cb) ((k1.trans J1).bytes sb (fun y hy hn=>F.b _ (tb y hy hn))) (fun y hy hn=>(k1.trans J1).fr _ (F.b _ (tb y hy hn))) (by unfold fG at hfit;simp only [List.length_append, aD, cl, eB x.wf.cR] at hfit ⊢;omega) (by omega)
 have J2:=J1.trans k2
 have A2:=cS x ((J2.get _ fb).trans gb)
 obtain ⟨h3,e3,W3,k3⟩:=r133 W2 (c:=cc) ((k1.trans J2).bytes sc (fun y hy hn=>F.c _ (tc y hy hn))) (fun y hy hn=>(k1.trans J2).fr _ (F.c _ (tc y hy hn))) (by unfold fG at hfit;simp only [List.length_append, aD, cl, eB x.wf.cR] at hfit ⊢;omega) (by omega)
 have J3:=J2.trans k3
 have A3:=cS x ((J3.get _ fb).trans gb)
 obtain ⟨h4,e4,W4,k4⟩:=r50 W3 (v:=bit m.want) (by unfold fG at hfit;simp only [List.length_append, aD, cl, eB x.wf.cR] at hfit ⊢;omega) (by unfold bit;split<;>decide)
 have J4:=J3.trans k4
 have A4:=cS x ((J4.get _ fb).trans gb)
 obtain ⟨h5,e5,W5,k5⟩:=r49 W4 (v:=m.cR.length) (by unfold fG at hfit;simp only [List.length_append, aD, cl, eB x.wf.cR] at hfit ⊢;omega) (by omega)
 have J5:=J4.trans k5
 have A5:=cS x ((J5.get _ fb).trans gb)
 rw [←vb] at e2
 rw [←vc] at e3
 have hw16:IntKind.wrap .u16 ((m.cR.length:Nat):Int)=(m.cR.length:Int):=wrap_u16 (by omega) (by omega)
 have K5:=k1.trans J5
 have fin : ∀ y,y 0=ptr w 0→y 29=s.d→y 30=aH m.cR.length→y 31=aH 0 → ∃ h',fa (iter (aI Tryz.prog CW (partOf Tryz.f116 [1,1,1,1,1,1,0,0])) rounds (bE 44 y) h5) (aw Tryz.prog Tryz.f116.results.toList) (b116_7 CW)=some (.tuple #[],h')∧IsW h' N w lim (l++fG m)∧WS w h h':=fun y y0 y29 y30 y31=>by
  refine cL (Q:=fun o:Out => ∃ h',o=some (Value.tuple #[],h')∧IsW h' N w lim (l++fG m)∧WS w h h') (cD (t116l116_1111110_eq CW) (itRound (N:=N) (lim:=lim) (L:=l++cy 2 m.low.length++m.low++cy 2 m.high.length++m.high++cy 1 (bit m.want)++cy 2 m.cR.length) (x.sl.d.ws F.d K5) (F.d.ws K5) x.wf.cR hv (by omega) (by unfold fG at hfit;simp only [List.length_append, aD, cl, eB x.wf.cR] at hfit ⊢;omega)) m.cR.length (by have:rounds=18446744073709551616:=rfl;omega)
   ⟨0,Nat.zero_add _,y0,y29,y30,y31,WS.refl _ _,by simpa using W5⟩) ?_
  rintro ex z g ⟨rfl,K,W'⟩
  rw [bR]
  unfold b116_7
  rw [if_pos rfl,results116]
  refine ⟨g,rfl,?_,K5.trans K⟩
  unfold fG text
  simpa only [List.append_assoc] using W'
 have key : ∃ h',t116 CW (ptr w 0) (mv m s) h=some (.tuple #[],h')∧IsW h' N w lim (l++fG m)∧WS w h h':=by
  have n4:=x.len.2.2.2.1
  cases hq:m.want with
  |true=>
   have bX:aP (ptr h.next 43) h3=some (.bool true,h3):=by rw [A3.bX,hq]
   have e4:CW 50 [ptr w 0,.int .u8 1] h3=some (.tuple #[],h4):=by
    rw [hq] at e4
    exact e4
   unfold t116
   simp -implicitDefEqProofs only [b1, A1.l7, e2, A2.l8, e3, bX, e4, A4.bN, n4, aH, ba, hw16, e5, A5.bN, ah, ao, aq, Nat.zero_add]
   exact fin _ rfl rfl rfl rfl
  |false=>
   have bX:aP (ptr h.next 43) h3=some (.bool false,h3):=by rw [A3.bX,hq]
   have e4:CW 50 [ptr w 0,.int .u8 0] h3=some (.tuple #[],h4):=by
    rw [hq] at e4
    exact e4
   unfold t116
   simp -implicitDefEqProofs only [b1, A1.l7, e2, A2.l8, e3, bX, e4, A4.bN, n4, aH, ba, hw16, e5, A5.bN, ah, ao, aq, Nat.zero_add]
   exact fin _ rfl rfl rfl rfl
 obtain ⟨h',e,W',K⟩:=key
 exact ⟨h',ay is116 W.g4 rfl ((t116_eq _ _ _ _).trans e),W',K⟩
end Go.Proofs.YtjghlcdidopcpaaGreatDoor

namespace Go.Proofs.YtjghlcdidopcpaaGreatDoor
open Go Go.Abs
attribute [local congr] bo
def eJ (k:Nat) (m:bc):List Nat:=match k with
 | 1|2=>bPing m
 | 3=>bReq m
 | 4=>bSum m
 | 5=>fG m
 | 8|10=>bPiece m
 | 11=>bStored m
 |_=>sObjB m
def frame0 (m:bc):List Nat:=cy 2 21335++(cy 1 1++(cy 1 m.kind++(cy 1 (i8 m.from_)++(cy 1 (i8 m.to_)++(cy 4 (eJ m.kind m).length++eJ m.kind m)))))
def enc (m:bc):List Nat:=frame0 m++cy 4 (crcN (frame0 m))
theorem crcN_lt {l:List Nat} (hb : ∀ x∈l,x<256):crcN l<4294967296:=by
 have h:=fi l 4294967295 (by omega) hb
 unfold crcN
 exact Nat.xor_lt_two_pow (n:=32) (by decide) h
theorem tab_fine {m:bc} (h:tabB m=true):m.table.length≤16:=by
 unfold tabB tableB at h
 simp only [Bool.and_eq_true,decide_eq_true_eq] at h
 omega
theorem fk {m:bc} (h:rangeB m=true):m.low.length≤34∧m.high.length≤34∧m.cR.length≤64 ∧ ∀ x∈m.cR,recB x=true:=by
 unfold rangeB at h
 simp only [Bool.and_eq_true,decide_eq_true_eq,Bool.not_eq_true'] at h
 obtain ⟨⟨⟨⟨⟨h1,h2⟩,_⟩,_⟩,h5⟩,h6⟩:=h
 refine ⟨by omega,by omega,by omega,fun x hx => ?_⟩
 have:=List.any_eq_false.1 h6 x hx
 simpa using this
theorem pce_fine {m:bc} (h:pceB m=true):manBad m=false∧m.data.length≤8192:=by
 unfold pceB at h
 simp only [Bool.and_eq_true,decide_eq_true_eq,Bool.not_eq_true'] at h
 exact ⟨h.1.1.1,by omega⟩
theorem body_len {k:Nat} {m:bc} (hk:kindOk k=true) (hc:chkB k m=true) (w:m.Wf):(eJ k m).length≤20000:=by
 have L1:tabB m=true→(bPing m).length≤20000∧(bReq m).length≤20000:=fun h=>by
  have:=tab_fine h
  unfold bPing bReq
  simp only [List.length_append,aD,bp]
  omega
 have L2:rangeB m=true→(bSum m).length≤20000∧(fG m).length≤20000:=fun h=>by
  obtain ⟨h1,h2,h3,_⟩:=fk h
  unfold bSum fG
  simp only [List.length_append,aD,cl,eB w.cR,w.root.1]
  omega
 have L3:pceB m=true→(bPiece m).length≤20000:=fun h=>by
  obtain ⟨h1,h2⟩:=pce_fine h
  have:=man_fine h1
  unfold bPiece
  simp only [List.length_append,aD,cl,encMan_len w,w.obj.1]
  omega
 have L4:(sObjB m).length≤20000:=by unfold sObjB;rw [w.obj.1];decide
 have L5:(bStored m).length≤20000:=by unfold bStored;simp only [List.length_append,aD,w.obj.1];decide
 rcases kinds hk with rfl|rfl|rfl|rfl|rfl|rfl|rfl|rfl|rfl|rfl|rfl|rfl|rfl
 ·exact (L1 hc).1
 ·exact (L1 hc).1
 ·exact (L1 hc).2
 ·exact (L2 hc).1
 ·exact (L2 hc).2
 ·exact L4
 ·exact L4
 ·exact L3 hc
 ·exact L4
 ·exact L3 hc
 ·exact L5
 ·exact L4
 ·exact L4
theorem bK (n v:Nat):dv (cy n v):=by
 induction n with
 |zero=>intro x hx;cases hx
 |succ n ih=>
  intro x hx
  rcases List.mem_cons.1 hx with rfl|hx
  ·exact Nat.mod_lt _ (by decide)
  ·exact ih x hx
theorem dv.app {a b:List Nat} (x:dv a) (y:dv b):dv (a++b):=fun z hz=>(List.mem_append.1 hz).elim (x z) (y z)
theorem write_call {h:ai} {N w lim:Nat} {l:List Nat} {s:dN} {m:bc} {k:Nat} (hk:kindOk k=true) (hc:chkB k m=true) (W:IsW h N w lim l) (x:Has h s m) (F:FrS h w s) (hfit:l.length+(eJ k m).length≤lim) :
  ∃ h',callA Tryz.prog CW (fnV (fmN k).2.2.2.1) [ptr w 0,mv m s] h=some (.tuple #[],h')∧IsW h' N w lim (l++eJ k m)∧WS w h h':=by
 rcases kinds hk with rfl|rfl|rfl|rfl|rfl|rfl|rfl|rfl|rfl|rfl|rfl|rfl|rfl
 ·exact (aS CW 97 _ h).symm▸r97 W x F (by have:=tab_fine hc;omega) hfit
 ·exact (aS CW 97 _ h).symm▸r97 W x F (by have:=tab_fine hc;omega) hfit
 ·exact (aS CW 100 _ h).symm▸r100 W x F (by have:=tab_fine hc;omega) hfit
 ·exact (aS CW 113 _ h).symm▸r113 W x F (fk hc).1 (fk hc).2.1 hfit
 ·exact (aS CW 116 _ h).symm▸r116 W x F (fk hc).1 (fk hc).2.1 (fk hc).2.2.1 (fk hc).2.2.2 hfit
 ·exact (aS CW 104 _ h).symm▸r104 W x F hfit
 ·exact (aS CW 104 _ h).symm▸r104 W x F hfit
 ·exact (aS CW 108 _ h).symm▸r108 W x F (pce_fine hc).1 (pce_fine hc).2 hfit
 ·exact (aS CW 104 _ h).symm▸r104 W x F hfit
 ·exact (aS CW 108 _ h).symm▸r108 W x F (pce_fine hc).1 (pce_fine hc).2 hfit
 ·exact (aS CW 120 _ h).symm▸r120 W x F hfit
 ·exact (aS CW 104 _ h).symm▸r104 W x F hfit
 ·exact (aS CW 104 _ h).symm▸r104 W x F hfit
theorem is21:bG Tryz.prog 21 Tryz.f21:=⟨by kernel_rfl,by kernel_rfl,by kernel_rfl,by kernel_rfl⟩
theorem valid_parts {m:bc} (v:eY m=true):kindOk m.kind=true∧chkB m.kind m=true:=by
 unfold eY at v
 simp only [Bool.and_eq_true] at v
 exact ⟨v.1.1.1.1.1,v.1.2⟩
section
variable {h:ai} {s:dN} {m:bc} (hG:4≤h.n0) (x:Has h s m) (sm:m.n.Small)
include hG x sm
set_option maxRecDepth 100000 in
theorem r21 (v:eY m=true) : ∃ a c h',CW 21 [mv m s] h=some (.tuple #[.slice a (enc m).length c,.int .i64 0],h')∧ax a (enc m).length h'=some (enc m)∧cY a (enc m).length c=true∧Old h h'∧(∀ y,a=some y→h.next≤y.block):=by
 obtain ⟨vk,vc⟩:=valid_parts v
 have hbl:=body_len vk vc x.wf
 obtain ⟨h1,b1,o1,x1,A1,n1,-⟩:=eU x
 have hG1:4≤h1.n0:=by rw [o1.n0];exact hG
 obtain ⟨h2,e2,o2⟩:=r19 hG1 x1 sm
 rw [v] at e2
 have z35:bin Tryz.prog .neq 35 (.int .i64 0) (.int .i64 0)=some (.bool false):=by rw [aB];rfl
 have O2:=o1.trans o2
 have A2:=cS x (Old.get o2 A1.g)
 obtain ⟨h3,e3,o3⟩:=r35 (h:=h2) (by rw [O2.n0];exact hG) x.wf.kind
 have O3:=O2.trans o3
 obtain ⟨h4,z4,o4,g4,n4⟩:=fresh [(.string ⟨#[]⟩),.nilFunc,.nilFunc,.nilFunc,.nilFunc] h3
 have c:=fmC_ok m.kind
 have p4:h4.n0≤h3.next:=by rw [o4.n0];exact h3.aQ
 obtain ⟨h5,s5,k5,g5,-,n5⟩:=cj (n:=5) (k':=fmC m.kind) g4 p4 rfl c.2.2 c.2.1
 have o5:Old h3 h5:=Old.fL o4 k5 (Nat.le_refl _)
 have O5:=O3.trans o5
 obtain ⟨h6,e6,W6,o6,F6⟩:=r47 h5 (by rw [O5.n0];exact hG) (lim:=20000) (by decide)
 have e6:CW 47 [.int .i64 20000] h5=_:=e6
 have O6:=O5.trans o6
 have o16:=((o2.trans o3).trans o5).trans o6
 have A6:=cS x (Old.get o16 A1.g)
 have f6:aP (ptr h3.next 3) h6=some (fnV (fmN m.kind).2.2.2.1,h6):=aU (Old.get o6 g5) rfl (by unfold fnV;split<;>rfl)
 have lt5:h.next<h5.next:=by
  have:=((o2.trans o3).trans o5).next
  omega
 have FS6:FrS h6 h5.next s:=by
  have key : ∀ b,b<h.next→Fr h6 h5.next b:=fun b hb=>F6 b (by omega)
  exact ⟨fun b hb=>key b (x.sl.a.lt hb),fun b hb=>key b (x.sl.b.lt hb),fun b hb=>key b (x.sl.c.lt hb),fun b hb=>key b (x.sl.d.lt hb),fun b hb=>key b (x.sl.e.lt hb),fun b hb=>key b (x.sl.f.lt hb)⟩
 obtain ⟨h7,e7,W7,k7⟩:=write_call vk vc W6 (x.bL O6) FS6 (by simpa using hbl)
 rw [List.nil_append] at W7
 obtain ⟨a8,c8,h8,e8,s8,gs8,o8,f8⟩:=r48 W7 (by omega)
 have O68:Old h5 h8:=⟨by rw [o8.n0,k7.n0,o6.n0],Nat.le_trans o6.next (Nat.le_trans k7.next o8.next),fun d hd _=>(Kept.get o8 d (Nat.lt_of_lt_of_le (F6 d hd).1 k7.next) (fun h=>h)).trans ((k7.get d (F6 d hd)).trans (Kept.get o6 d hd (fun h=>h)))⟩
 have O8:=O5.trans O68
 have g8:h8.get h.next=some (m.d.cells s):=Old.get O68 (Old.get ((o2.trans o3).trans o5) A1.g)
 have hl8:bM (.slice a8 (eJ m.kind m).length c8)=some (aH (eJ m.kind m).length):=rfl
 have had:bin Tryz.prog .add 3 (aH (eJ m.kind m).length) (.int .i64 14)=some (aH ((eJ m.kind m).length+14)):=add3 (b:=14) (by omega)
 obtain ⟨h9,e9,W9,o9,F9⟩:=r47 h8 (by rw [O8.n0];exact hG) (lim:=(eJ m.kind m).length+14) (by omega)
 have fb:Fr h9 h8.next h.next:=F9 _ (by have:=O68.next;omega)
 have gb:h9.get h.next=some (m.d.cells s):=Old.get o9 g8
 have K9:WS h8.next h9 h9:=WS.refl _ _
 have Fa : ∀ y,a8=some y→0<(eJ m.kind m).length→Fr h9 h8.next y.block:=fun y hy hn=>F9 _ (by
  obtain ⟨b,off,s',k,e,g,_⟩:=(aA s8).2.2 hn
  rw [hy] at e
  cases e
  exact h8.bh g)
 have s9:=Old.bytes o9 s8
 obtain ⟨h10,e10,W10,k10⟩:=r49 W9 (v:=21335) (by simp only [List.length_nil];omega) (by decide)
 have K10:=K9.trans k10
 have A10:=cS x ((K10.get _ fb).trans gb)
 obtain ⟨h11,e11,W11,k11⟩:=r50 W10 (v:=1) (by simp only [List.length_append,aD,List.length_nil];omega) (by decide)
 have K11:=K10.trans k11
 have A11:=cS x ((K11.get _ fb).trans gb)
 obtain ⟨h12,e12,W12,k12⟩:=r50 W11 (v:=m.kind) (by simp only [List.length_append,aD,List.length_nil];omega) x.wf.kind
 have K12:=K11.trans k12
 have A12:=cS x ((K12.get _ fb).trans gb)
 obtain ⟨h13,e13,W13,k13⟩:=r50 W12 (v:=i8 m.from_) (by simp only [List.length_append,aD,List.length_nil];omega) (i8_lt _)
 have K13:=K12.trans k13
 have A13:=cS x ((K13.get _ fb).trans gb)
 obtain ⟨h14,e14,W14,k14⟩:=r50 W13 (v:=i8 m.to_) (by simp only [List.length_append,aD,List.length_nil];omega) (i8_lt _)
 have K14:=K13.trans k14
 have A14:=cS x ((K14.get _ fb).trans gb)
 obtain ⟨h15,e15,W15,k15⟩:=r51 W14 (v:=(eJ m.kind m).length) (by simp only [List.length_append,aD,List.length_nil];omega) (by omega)
 have K15:=K14.trans k15
 have A15:=cS x ((K15.get _ fb).trans gb)
 obtain ⟨h16,e16,W16,k16⟩:=r52 W15 (c:=c8) (K15.bytes s9 Fa) (fun y hy hn=>K15.fr _ (Fa y hy hn)) (by simp only [List.length_append,aD,List.length_nil];omega)
 have K16:=K15.trans k16
 have A16:=cS x ((K16.get _ fb).trans gb)
 have hE : []++cy 2 21335++cy 1 1++cy 1 m.kind++cy 1 (i8 m.from_)++cy 1 (i8 m.to_)++cy 4 (eJ m.kind m).length++eJ m.kind m=frame0 m:=by
  unfold frame0
  simp only [List.append_assoc,List.nil_append]
 rw [hE] at W16
 have hfl:(frame0 m).length=(eJ m.kind m).length+10:=by
  unfold frame0
  simp only [List.length_append,aD]
  omega
 obtain ⟨a17,c17,h17,e17,s17,gs17,o17,f17⟩:=r48 W16 (by omega)
 obtain ⟨h18,e18,o18⟩:=r34 (h:=h17) (by rw [o17.n0];exact W16.g4) (c:=c17) s17 (by omega)
 have W18:=W16.bL (o17.trans o18)
 have hby:dv (frame0 m):=(aA s17).2.1
 obtain ⟨h19,e19,W19,k19⟩:=r51 W18 (v:=crcN (frame0 m)) (by omega) (crcN_lt hby)
 obtain ⟨a20,c20,h20,e20,s20,gs20,o20,f20⟩:=r48 W19 (by rw [List.length_append,aD];omega)
 have K19:=(K16.trans (WS.fp W16.lt (o17.trans o18))).trans k19
 have O20:Old h8 h20:=⟨by rw [o20.n0,K19.n0,o9.n0],Nat.le_trans o9.next (Nat.le_trans K19.next o20.next),fun d hd _=>(Kept.get o20 d (Nat.lt_of_lt_of_le (F9 d hd).1 K19.next) (fun h=>h)).trans ((K19.get d (F9 d hd)).trans (Kept.get o9 d hd (fun h=>h)))⟩
 have e10:CW 49 [ptr h8.next 0,.int .u16 21335] h9=some (.tuple #[],h10):=e10
 have e11:CW 50 [ptr h8.next 0,.int .u8 1] h10=some (.tuple #[],h11):=e11
 have hw32:IntKind.wrap .u32 (((eJ m.kind m).length:Nat):Int)=((eJ m.kind m).length:Int):=wrap_u32 (by omega) (by omega)
 refine ⟨a20,c20,h20,ay is21 hG rfl ((t21_eq _ _ _).trans ?_),s20,gs20,O8.trans O20,fun y hy => ?_⟩
 ·unfold t21
  simp -implicitDefEqProofs only [b1, A1.all, e2, if_true, z35, A2.l0, e3, eN, eP, z4, s5, e6, f6, A6.all, e7, e8, hl8, had, e9, e10, e11, A11.l0, e12, A12.l1, ba, wrap_i8, e13, A13.l2, e14, aH, hw32, e15, e16, e17, e18, e19, e20, ah, ao, aq, Nat.zero_add]
  rfl
 ·have h1:=f20 y hy
  have h2:=O8.next
  have h3:=Nat.le_trans o9.next K19.next
  omega
end
end Go.Proofs.YtjghlcdidopcpaaGreatDoor

namespace Go.Proofs.YtjghlcdidopcpaaGreatDoor
open Go Go.Abs
attribute [local congr] bo
theorem own_sl {h:ai} {N len:Nat} {ks:List Kd} {v:Value} {cells:List Value} (o:OwnC h N ks.length v len cells) (t:dQ ks len cells):cH h ks v len cells:=by
 obtain ⟨o1,o2,o3,o4⟩:=o
 rcases o4 with ⟨rfl,rfl⟩|⟨b,s,rfl,h5,⟨rfl,rfl⟩|⟨rfl,h6⟩⟩
 ·exact ⟨none,0,rfl,fun _=>rfl,t,fun h=>absurd h (Nat.lt_irrefl 0)⟩
 ·exact ⟨_,_,rfl,fun h=>(by cases h),t,fun h=>absurd h (Nat.lt_irrefl 0)⟩
 ·refine ⟨_,_,rfl,fun h=>(by cases h),t,fun _=>⟨b,0,_,cells,rfl,h6,by omega,?_⟩⟩
  rw [List.drop_zero,←o1,List.take_length]
theorem own_blk {h:ai} {N size len:Nat} {v:Value} {cells:List Value} (o:OwnC h N size v len cells) {b:Nat} (hb:slB v=some b):N≤b:=by
 obtain ⟨o1,o2,o3,o4⟩:=o
 rcases o4 with ⟨rfl,rfl⟩|⟨b',s,rfl,h5,_⟩
 ·cases hb
 ·cases len with
  |zero=>cases hb
  |succ n=>cases hb;exact h5
theorem eF {h:ai} {N size len:Nat} {v:Value} {cells:List Value} (o:OwnC h N size v len cells) {b:Nat} (hb:du v=some b):N≤b:=by
 obtain ⟨o1,o2,o3,o4⟩:=o
 rcases o4 with ⟨rfl,rfl⟩|⟨b',s,rfl,h5,_⟩
 ·cases hb
 ·cases hb;exact h5
theorem slice1 {h:ai} {ks:List Kd} {b:Nat} {s:Option Nat} {cells:List Value} (g:h.get b=some cells) (t:Typed ks cells):cH h ks (.slice (some ⟨b,0,s⟩) 1 1) 1 cells:=by
 have hl:cells.length=ks.length:=t.1
 refine ⟨_,_,rfl,fun h=>(by cases h),⟨by rw [hl,Nat.one_mul],fun i hi => ?_⟩,fun _=>⟨b,0,s,cells,rfl,g,by omega,?_⟩⟩
 ·obtain rfl:i=0:=by omega
  rw [Nat.zero_mul,List.drop_zero,←hl,List.take_length]
  exact t
 ·rw [List.drop_zero,Nat.one_mul,←hl,List.take_length]
theorem cH.slice {h:ai} {ks:List Kd} {v:Value} {n:Nat} {cs:List Value} (x:cH h ks v n cs):lenA v=some n:=by
 obtain ⟨a,c,rfl,_⟩:=x
 rfl
theorem memC_ok (m:ee):Abs.bq (dm m)=true∧aR (dm m)=true:=⟨rfl,rfl⟩
def pTab:Nat→Rd→List ee×Rd
 | 0,s=>([],s)
 |n+1,s=>(⟨(s.num 8).1,((s.num 8).2.num 1).1⟩::(pTab n ((s.num 8).2.num 1).2).1,(pTab n ((s.num 8).2.num 1).2).2)
def cO (s:Rd):List ee×Rd:=pTab (s.num 1).1 (s.num 1).2
theorem is129:bG Tryz.prog 129 Tryz.f129:=⟨by kernel_rfl,by kernel_rfl,by kernel_rfl,by kernel_rfl⟩
theorem b129_exit (C:au) (e:Env) (h:ai):b129_3 C 0 e h=k129_1 C e h:=rfl
def rtInv (h0:ai) (p r n:Nat) (s0:Rd) (k:Nat) (y:Nat→Value) (g:ai):Prop:=
 ∃ i t s1,i+k=n∧y 0=ptr r 0∧y 5 = .int .u8 (n:Int)∧y 6 = .int .u8 (i:Int)∧OwnC g h0.next 2 (y 2) t.length (t.flatMap dm)∧(∀ x∈t,x.Wf)∧t.length=i∧fc g p r s1∧Kept h0 g (fun c=>c=r)∧pTab n s0=(t++(pTab k s1).1,(pTab k s1).2)
def rtFin (h0:ai) (p r n:Nat) (s0:Rd) (ex:Ex) (y:Nat→Value) (g:ai):Prop:=
 ex = .exit 0∧OwnC g h0.next 2 (y 2) (pTab n s0).1.length ((pTab n s0).1.flatMap dm)∧(∀ x∈(pTab n s0).1,x.Wf)∧fc g p r (pTab n s0).2∧Kept h0 g (fun c=>c=r)
theorem rtRound {h0:ai} {p r n:Nat} {s0:Rd} (hn:n<256) (h00:h0.n0≤h0.next) (hr:r<h0.next) : ∀ k y g,rtInv h0 p r n s0 k y g→ei 19 (rtInv h0 p r n s0) (rtFin h0 p r n s0) k (t129l129_1010 CW y g):=by
 rintro k y g ⟨i,t,s1,hik,y0,y5,y6,O,hw,hti,R,K,hp⟩
 unfold t129l129_1010
 cases k with
 |zero=>
  have hd:decide ((i:Int)<(n:Int))=false:=decide_eq_false (by omega)
  simp -implicitDefEqProofs only [y6,y5,aF,hd,ah,ao]
  have hp:pTab n s0=(t,s1):=by rw [hp];simp [pTab]
  exact ei.out 0 ⟨rfl,by rw [hp];exact O,by rw [hp];exact hw,by rw [hp];exact R,K⟩
 |succ k=>
  have hd:decide ((i:Int)<(n:Int))=true:=decide_eq_true (by omega)
  obtain ⟨g1,e1,R1,k1,n1⟩:=q128 R
  obtain ⟨g2,e2,R2,k2,n2⟩:=q73 R1
  have h8:(s1.num 8).1<18446744073709551616:=Rd.dB R.byte 8
  have h1:((s1.num 8).2.num 1).1<256:=Rd.dB R1.byte 1
  generalize hm:(⟨(s1.num 8).1,((s1.num 8).2.num 1).1⟩:ee)=m at *
  have wm:m.Wf:=by rw [←hm];exact ⟨h8,h1⟩
  have hc:dm m = [.int .u64 ((s1.num 8).1:Int),.int .u8 (((s1.num 8).2.num 1).1:Int)]:=by rw [←hm];rfl
  have hb:cI [(.int .u64 0),(.int .u8 0)] [(0,1,.int .u64 ((s1.num 8).1:Int)),(1,1,.int .u8 (((s1.num 8).2.num 1).1:Int))]=some (.agg (dm m).toArray):=by rw [hc];rfl
  have hbs:bslR 2 (.agg #[(.int .u64 0),(.int .u8 0)]) 1 [(0,.agg (dm m).toArray)] g2=some (.slice (some ⟨g2.next,0,none⟩) 1 1,g2.alloc (dm m)):=by rw [hc];rfl
  have oa:Old g2 (g2.alloc (dm m)):=Kept.alloc _ _ _
  have ga:(g2.alloc (dm m)).get g2.next=some (dm m):=by rw [ai.aN,if_pos rfl]
  have na:(g2.alloc (dm m)).next=g2.next+1:=rfl
  generalize g2.alloc (dm m)=g3 at *
  have S:=slice1 (s:=none) ga (mem_typed wm)
  have kk:Kept g g3 (fun c=>c=r):=((k1.trans k2).trans (oa.mono (fun _ _ h=>h.elim)))
  have hne : ∀ b,du (y 2)=some b → ¬b=r:=fun b hb e=>by have:=eF O hb;omega
  have O3:=O.cG kk hne
  have p3:g3.n0≤h0.next:=by rw [kk.n0,K.n0];exact h00
  obtain ⟨v',g4,e4,O4,k4,_⟩:=append_own (by_:=16) O3 p3 (Nat.le_trans K.next kk.next) (by decide) S.slice (S.first (by decide)) (memC_ok m).2 (memC_ok m).1 (by rw [hc];rfl) (by omega) (by omega)
  have R3:=R2.dG oa (fun _ _ h=>h)
  have R4:fc g4 p r _:=R3.dG k4 (fun b hb e=>by
   have:=eF O3 e.1
   omega)
  have ha:bin Tryz.prog .add 5 (.int .u8 (i:Int)) (.int .u8 1)=some (.int .u8 ((i+1:Nat):Int)):=by
   rw [bin_add,wrap_u8 (by omega) (by omega)]
   exact congrArg (fun z=>some (Value.int .u8 z)) (by omega)
  simp -implicitDefEqProofs only [y6,y5,aF,hd,y0,e1,e2,hb,hbs,e4,ha,ah,ao]
  refine ei.next k (by omega) ⟨i+1,t ++ [m],_,by omega,y0,y5,rfl,?_,?_,by rw [List.length_append,hti];rfl,R4,(K.trans kk).dw k4 (fun d hd e=>by
   have:=eF O3 e.1
   omega),?_⟩
  ·show OwnC g4 h0.next 2 v' (t ++ [m]).length ((t ++ [m]).flatMap dm)
   rw [List.flatMap_append,List.length_append]
   simpa using O4
  ·intro x hx
   rcases List.mem_append.1 hx with hx|hx
   ·exact hw x hx
   ·simp only [List.mem_cons,List.not_mem_nil,or_false] at hx
    subst hx;exact wm
  ·rw [hp,←hm]
   simp [pTab]
theorem q129 {h:ai} {p r:Nat} {s:Rd} (R:fc h p r s) : ∃ v h',CW 129 [ptr r 0] h=some (v,h')∧fc h' p r (cO s).2∧cH h' memK v (cO s).1.length ((cO s).1.flatMap dm)∧(∀ x∈(cO s).1,x.Wf)∧(∀ b,slB v=some b→h.next≤b)∧Kept h h' (fun c=>c=r):=by
 obtain ⟨h1,e1,R1,k1,n1⟩:=q73 R
 have hn:(s.num 1).1<256:=Rd.dB R.byte 1
 have key : ∃ v h',t129 CW (ptr r 0) h=some (v,h')∧fc h' p r (cO s).2∧cH h' memK v (cO s).1.length ((cO s).1.flatMap dm)∧(∀ x∈(cO s).1,x.Wf)∧(∀ b,slB v=some b→h.next≤b)∧Kept h h' (fun c=>c=r):=by
  unfold t129
  simp -implicitDefEqProofs only [ah,e1]
  refine cL (Q:=fun o:Out => ∃ v h',o=some (v,h')∧fc h' p r (cO s).2∧cH h' memK v (cO s).1.length ((cO s).1.flatMap dm)∧(∀ x∈(cO s).1,x.Wf)∧(∀ b,slB v=some b→h.next≤b)∧Kept h h' (fun c=>c=r)) (cD (t129l129_1010_eq CW) (rtRound (p:=p) (r:=r) (s0:=(s.num 1).2) hn h1.aQ R1.lt) (s.num 1).1 (by have:rounds=18446744073709551616:=rfl;omega)
   ⟨0,[],(s.num 1).2,Nat.zero_add _,rfl,rfl,rfl,.nil _ _ _,(fun x hx=>by cases hx),rfl,R1,Kept.refl _ _,rfl⟩) ?_
  rintro ex z g ⟨rfl,O,hw,R',K⟩
  rw [bR,b129_exit,t129k129_1_eq]
  unfold t129k129_1
  exact ⟨z 2,g,rfl,R',own_sl O (ey (P:=ee.Wf) (fun a ha=>mem_typed ha) _ hw),hw,fun b hb=>by
   have:=own_blk O hb
   omega,k1.trans K⟩
 obtain ⟨v,h',e,rest⟩:=key
 exact ⟨v,h',ay is129 R.g4 rfl ((t129_eq _ _ _).trans e),rest⟩
end Go.Proofs.YtjghlcdidopcpaaGreatDoor

namespace Go.Proofs.YtjghlcdidopcpaaGreatDoor
open Go Go.Abs
attribute [local congr] bo
theorem copy_mid {h:ai} {b off dc c n:Nat} {s:Option Nat} {a:Option Addr} {A B C:List Value} {l:List Nat} (g:h.get b=some (A++(B++C))) (h0:h.n0≤b) (hA:A.length=off) (hB:B.length=n) (hs:ax a n h=some l) (hn:0<n) :
  ∃ g',copyA 1 (.slice (some ⟨b,off,s⟩) n dc) (.slice a n c) h=some (aH n,g')∧Kept h g' (· = b)∧g'.get b=some (A++(bZ l++C))∧g'.next=h.next:=by
 obtain ⟨hl,hb,_⟩:=aA hs
 have hf:=firstA_of hs (Nat.le_refl n) (c:=c)
 rw [List.take_of_length_le (by omega)] at hf
 have hsp:bx (A++(B++C)) off (bZ l)=A++(bZ l++C):=splice_app hA hB (by rw [List.length_map];exact hl)
 refine ⟨h.set b (A++(bZ l++C)),?_,Kept.set h0 g (.inr rfl),ai.bW h0 g _,rfl⟩
 unfold copyA
 simp only [lenA]
 rw [Nat.min_self,hf]
 simp only
 rw [if_neg (by omega)]
 unfold stL
 simp only [g]
 rw [if_pos (by
  have h1:off+(bZ l).length≤(A++(B++C)).length:=by rw [List.length_append,List.length_append,List.length_map,hA,hB];omega
  simp only [decide_eq_true h0,decide_eq_true h1,(dR l).2,Bool.and_self]),hsp]
 rfl
section
variable {x:bT} (ho:x.obj.length=32)
include ho
theorem rset33 (v:Int):(recC x).set 33 (.int .i64 v)=recC { x with dg:=v }:=bQ (A := .int .u8 (x.kind:Int)::bZ x.obj) 0 (by simp [ho]) rfl
theorem rset34 (v:Nat):(recC x).set 34 (.int .u64 (v:Int))=recC { x with inc:=v }:=bQ (A := .int .u8 (x.kind:Int)::bZ x.obj) 1 (by simp [ho]) rfl
theorem rset35 (v:Nat):(recC x).set 35 (.int .u64 (v:Int))=recC { x with num:=v }:=bQ (A := .int .u8 (x.kind:Int)::bZ x.obj) 2 (by simp [ho]) rfl
theorem rset36 (v:Bool):(recC x).set 36 (.bool v)=recC { x with held:=v }:=bQ (A := .int .u8 (x.kind:Int)::bZ x.obj) 3 (by simp [ho]) rfl
theorem rset37 (v:Int):(recC x).set 37 (.int .i64 v)=recC { x with k:=v }:=bQ (A := .int .u8 (x.kind:Int)::bZ x.obj) 4 (by simp [ho]) rfl
theorem rset38 (v:Int):(recC x).set 38 (.int .i64 v)=recC { x with n:=v }:=bQ (A := .int .u8 (x.kind:Int)::bZ x.obj) 5 (by simp [ho]) rfl
theorem recC_len:(recC x).length=39:=by unfold recC bZ;simp [ho]
end
def decRx (l:List Nat):bT:=⟨be (l.take 1),(l.drop 1).take 32,(be ((l.drop 33).take 1):Nat),be ((l.drop 34).take 8),be ((l.drop 42).take 8),be ((l.drop 50).take 1)==1,(be ((l.drop 51).take 1):Nat),(be ((l.drop 52).take 1):Nat)⟩
def decR (l:List Nat):bT×Int:=
 if l.length<53 then (bT.z,4) else if 53<l.length then (bT.z,3) else if 1<be ((l.drop 50).take 1) then (bT.z,5) else if recB (decRx l) then (decRx l,0) else (bT.z,2)
theorem be1_lt {l:List Nat} (hb:dv l) (j:Nat):be ((l.drop j).take 1)<256:=be_lt' (n:=1) (by rw [List.length_take];omega) fun x hx=>hb x (List.mem_of_mem_drop (List.mem_of_mem_take hx))
theorem be8_lt {l:List Nat} (hb:dv l) (j:Nat):be ((l.drop j).take 8)<18446744073709551616:=be_lt' (n:=8) (by rw [List.length_take];omega) fun x hx=>hb x (List.mem_of_mem_drop (List.mem_of_mem_take hx))
theorem i64_nat {n:Nat} (h:n<256):I64 (n:Int):=⟨by omega,by omega⟩
theorem bT.z_wf:bT.z.Wf:=⟨by decide,z32_ok,eA,by decide,by decide,eA,eA⟩
theorem decRx_wf {l:List Nat} (hl:l.length=53) (hb:dv l):(decRx l).Wf:=
 ⟨be1_lt hb 0,⟨by show ((l.drop 1).take 32).length=32;rw [List.length_take,List.length_drop];omega,fun x hx=>hb x (List.mem_of_mem_drop (List.mem_of_mem_take hx))⟩,i64_nat (be1_lt hb 33),be8_lt hb 34,be8_lt hb 42,i64_nat (be1_lt hb 51),i64_nat (be1_lt hb 52)⟩
theorem decR_wf {l:List Nat} (hb:dv l):(decR l).1.Wf:=by
 unfold decR
 split
 ·exact bT.z_wf
 split
 ·exact bT.z_wf
 split
 ·exact bT.z_wf
 split
 ·exact decRx_wf (by omega) hb
 ·exact bT.z_wf
theorem agg61:aggT Tryz.prog 61=some true:=by kernel_rfl
theorem siz61:cr Tryz.prog 61=some 39:=by kernel_rfl
theorem results140:Tryz.f140.results.toList = [.cell 2 61,.tmp 3]:=by kernel_rfl
theorem is140:bG Tryz.prog 140 Tryz.f140:=⟨by kernel_rfl,by kernel_rfl,by kernel_rfl,by kernel_rfl⟩
theorem rec_end {h0 h:ai} {b:Nat} {k:dk} (o:Old h0 h) (hb:h0.next≤b) (g:h.get b=some k) (hk:k.length=39) {r:bT} (w:r.Wf) : ∃ h',cv 39 (ptr b 0) (.agg (recC r).toArray) h=some (undef,h')∧cq 39 (ptr b 0) h'=some (.agg (recC r).toArray,h')∧Old h0 h':=by
 have hn:h.n0≤b:=by rw [o.n0];exact Nat.le_trans h0.aQ hb
 obtain ⟨h',e1,k1,g1,_,_⟩:=cj (n:=39) g hn hk (bA w).1 (bA w).2.2
 exact ⟨h',e1,ek g1 (bA w).1 (bA w).2.1,Old.fL o k1 hb⟩
set_option maxRecDepth 100000 in
theorem q140 {h:ai} (hG:4≤h.n0) {a:Option Addr} {n c:Nat} {l:List Nat} (hl:ax a n h=some l) (hn:n≤21000) : ∃ h',CW 140 [.slice a n c] h=some (.tuple #[.agg (recC (decR l).1).toArray,.int .i64 (decR l).2],h')∧Old h h':=by
 obtain ⟨hlen,hby,_⟩:=aA hl
 obtain ⟨h1,z1,o1,g1,n1⟩:=fresh [(.int .u8 0),(.int .u8 0),(.int .u8 0),(.int .u8 0),(.int .u8 0),(.int .u8 0),(.int .u8 0),(.int .u8 0),(.int .u8 0),(.int .u8 0),(.int .u8 0),(.int .u8 0),(.int .u8 0),(.int .u8 0),(.int .u8 0),(.int .u8 0),(.int .u8 0),(.int .u8 0),(.int .u8 0),(.int .u8 0),(.int .u8 0),(.int .u8 0),(.int .u8 0),(.int .u8 0),(.int .u8 0),(.int .u8 0),(.int .u8 0),(.int .u8 0),(.int .u8 0),(.int .u8 0),(.int .u8 0),(.int .u8 0),(.int .u8 0),(.int .i64 0),(.int .u64 0),(.int .u64 0),(.bool false),(.int .i64 0),(.int .i64 0)] h
 have bz:cI [(.int .u8 0),(.int .u8 0),(.int .u8 0),(.int .u8 0),(.int .u8 0),(.int .u8 0),(.int .u8 0),(.int .u8 0),(.int .u8 0),(.int .u8 0),(.int .u8 0),(.int .u8 0),(.int .u8 0),(.int .u8 0),(.int .u8 0),(.int .u8 0),(.int .u8 0),(.int .u8 0),(.int .u8 0),(.int .u8 0),(.int .u8 0),(.int .u8 0),(.int .u8 0),(.int .u8 0),(.int .u8 0),(.int .u8 0),(.int .u8 0),(.int .u8 0),(.int .u8 0),(.int .u8 0),(.int .u8 0),(.int .u8 0),(.int .u8 0),(.int .i64 0),(.int .u64 0),(.int .u64 0),(.bool false),(.int .i64 0),(.int .i64 0)] []=some (.agg (recC bT.z).toArray):=rfl
 have hln:bM (.slice a n c)=some (aH n):=rfl
 unfold decR
 by_cases c1:l.length<53
 ·rw [if_pos c1]
  have q1:bin Tryz.prog .lss 3 (aH n) (.int .i64 53)=some (.bool true):=by rw [aF,decide_eq_true (by omega)]
  obtain ⟨h2,e2,l2,o2⟩:=rec_end o1 (Nat.le_refl _) g1 rfl bT.z_wf
  refine ⟨h2,ay is140 hG rfl ((t140_eq _ _ _).trans ?_),o2⟩
  unfold t140
  simp -implicitDefEqProofs only [z1,hln,q1,bz,e2,ah,ao]
  exact bj results140 agg61 siz61 (show 2<58 by decide) (show 3<58 by decide) _ l2
 rw [if_neg c1]
 have q1:bin Tryz.prog .lss 3 (aH n) (.int .i64 53)=some (.bool false):=by rw [aF,decide_eq_false (by omega)]
 by_cases c2:53<l.length
 ·rw [if_pos c2]
  have q2:bin Tryz.prog .gtr 3 (aH n) (.int .i64 53)=some (.bool true):=by rw [aE,decide_eq_true (by omega)]
  obtain ⟨h2,e2,l2,o2⟩:=rec_end o1 (Nat.le_refl _) g1 rfl bT.z_wf
  refine ⟨h2,ay is140 hG rfl ((t140_eq _ _ _).trans ?_),o2⟩
  unfold t140
  simp -implicitDefEqProofs only [z1,hln,q1,q2,bz,e2,ah,ao]
  exact bj results140 agg61 siz61 (show 2<58 by decide) (show 3<58 by decide) _ l2
 rw [if_neg c2]
 have q2:bin Tryz.prog .gtr 3 (aH n) (.int .i64 53)=some (.bool false):=by rw [aE,decide_eq_false (by omega)]
 have h53:l.length=53:=by omega
 obtain ⟨r,h2,e2,R2,o2,lr⟩:=r32 (h:=h1) (by rw [o1.n0];exact hG) (c:=c) (Old.bytes o1 hl) hn
 have rl2:=R2.lt
 obtain ⟨h3,e3,K3⟩:=r73 R2 (by omega)
 have R3:=K3.rd
 have O3:Old h1 h3:=o2.dw K3.kept (fun d hd e=>by omega)
 have n3:=K3.next
 have bk:cI [(.int .u8 0),(.int .u8 0),(.int .u8 0),(.int .u8 0),(.int .u8 0),(.int .u8 0),(.int .u8 0),(.int .u8 0),(.int .u8 0),(.int .u8 0),(.int .u8 0),(.int .u8 0),(.int .u8 0),(.int .u8 0),(.int .u8 0),(.int .u8 0),(.int .u8 0),(.int .u8 0),(.int .u8 0),(.int .u8 0),(.int .u8 0),(.int .u8 0),(.int .u8 0),(.int .u8 0),(.int .u8 0),(.int .u8 0),(.int .u8 0),(.int .u8 0),(.int .u8 0),(.int .u8 0),(.int .u8 0),(.int .u8 0),(.int .u8 0),(.int .i64 0),(.int .u64 0),(.int .u64 0),(.bool false),(.int .i64 0),(.int .i64 0)] [(0,1,.int .u8 ((be (l.take 1):Nat):Int))]=some (.agg (recC { bT.z with kind:=be (l.take 1) }).toArray):=rfl
 have wk:({ bT.z with kind:=be (l.take 1) }:bT).Wf:={ bT.z_wf with kind:=be1_lt hby 0 }
 obtain ⟨h4,z4,o4,g4,n4⟩:=fresh [(.int .u8 0),(.int .u8 0),(.int .u8 0),(.int .u8 0),(.int .u8 0),(.int .u8 0),(.int .u8 0),(.int .u8 0),(.int .u8 0),(.int .u8 0),(.int .u8 0),(.int .u8 0),(.int .u8 0),(.int .u8 0),(.int .u8 0),(.int .u8 0),(.int .u8 0),(.int .u8 0),(.int .u8 0),(.int .u8 0),(.int .u8 0),(.int .u8 0),(.int .u8 0),(.int .u8 0),(.int .u8 0),(.int .u8 0),(.int .u8 0),(.int .u8 0),(.int .u8 0),(.int .u8 0),(.int .u8 0),(.int .u8 0),(.int .u8 0),(.int .i64 0),(.int .u64 0),(.int .u64 0),(.bool false),(.int .i64 0),(.int .i64 0)] h3
 have p4:h4.n0≤h3.next:=by rw [o4.n0];exact h3.aQ
 obtain ⟨h5,e5,k5,g5,p5,n5⟩:=cj (n:=39) (k':=recC { bT.z with kind:=be (l.take 1) }) g4 p4 rfl (bA wk).1 (bA wk).2.2
 have o35:Old h3 h5:=Old.fL o4 k5 (Nat.le_refl _)
 have O5:=O3.trans o35
 have R5:=R3.dG o35 (fun _ _ h=>h)
 obtain ⟨a6,c6,h6,e6,s6,_,R6,k6,_⟩:=r74 R5 (n:=32) (by rw [List.length_drop];omega)
 have e6:CW 74 [ptr r 0,.int .i64 32] h5=_:=e6
 have O6:Old h1 h6:=O5.dw k6 (fun d hd e=>by omega)
 have hD:r<h3.next:=by omega
 have g6:h6.get h3.next=some (recC { bT.z with kind:=be (l.take 1) }):=k6.fj g5 (by omega)
 have p6:h6.n0≤h3.next:=by rw [k6.n0];exact p5
 obtain ⟨h7,e7,k7,g7,n7⟩:=copy_mid (A := [.int .u8 ((be (l.take 1):Nat):Int)]) (B:=bZ z32) (C := [.int .i64 0,.int .u64 0,.int .u64 0,.bool false,.int .i64 0,.int .i64 0]) (off:=1) (n:=32) (dc:=32) (c:=c6) (s:=none) g6 p6 rfl rfl s6 (by decide)
 have kD : ∀ {b:Nat},b=r∨(h1.next≤b∧b<r) → ¬b=h3.next:=fun hb e=>by omega
 have R7:=R6.dG k7 (fun b hb e=>kD hb e)
 have O7:Old h1 h7:=O6.dw k7 (fun d hd e=>by have:=O3.next;omega)
 have p7:h7.n0≤h3.next:=by rw [k7.n0];exact p6
 have g7:h7.get h3.next=some (recC { bT.z with kind:=be (l.take 1),obj:=(l.drop 1).take 32 }):=g7
 rw [List.drop_drop] at R7
 have hobj:((l.drop 1).take 32).length=32:=by rw [List.length_take,List.length_drop];omega
 obtain ⟨h8,e8,K8⟩:=r73 R7 (by rw [List.length_drop];omega)
 have R8:=K8.rd
 rw [List.drop_drop] at R8
 have O8:Old h1 h8:=O7.dw K8.kept (fun d hd e=>by omega)
 have g8:=K8.kept.fj g7 (by omega)
 have p8:h8.n0≤h3.next:=by rw [K8.kept.n0];exact p7
 obtain ⟨h9,e9,K9⟩:=r128 R8 (by rw [List.length_drop];omega)
 have R9:=K9.rd
 rw [List.drop_drop] at R9
 have O9:Old h1 h9:=O8.dw K9.kept (fun d hd e=>by omega)
 have g9:=K9.kept.fj g8 (by omega)
 have p9:h9.n0≤h3.next:=by rw [K9.kept.n0];exact p8
 obtain ⟨h10,e10,K10⟩:=r128 R9 (by rw [List.length_drop];omega)
 have R10:=K10.rd
 rw [List.drop_drop] at R10
 have O10:Old h1 h10:=O9.dw K10.kept (fun d hd e=>by omega)
 have g10:=K10.kept.fj g9 (by omega)
 have p10:h10.n0≤h3.next:=by rw [K10.kept.n0];exact p9
 obtain ⟨h11,e11,k11,g11,p11,_⟩:=stored (v := .int .i64 ((be ((l.drop 33).take 1):Nat):Int)) (o:=33) g10 p10 (by rw [recC_len hobj];decide) rfl rfl
 rw [rset33 hobj] at g11
 have R11:=R10.dG k11 (fun b hb e=>kD hb e)
 have O11:Old h1 h11:=O10.dw k11 (fun d hd e=>by have:=O3.next;omega)
 obtain ⟨h12,e12,k12,g12,p12,_⟩:=stored (v := .int .u64 ((be ((l.drop 34).take 8):Nat):Int)) (o:=34) g11 p11 (by rw [recC_len hobj];decide) rfl rfl
 rw [rset34 hobj] at g12
 have R12:=R11.dG k12 (fun b hb e=>kD hb e)
 have O12:Old h1 h12:=O11.dw k12 (fun d hd e=>by have:=O3.next;omega)
 obtain ⟨h13,e13,k13,g13,p13,_⟩:=stored (v := .int .u64 ((be ((l.drop 42).take 8):Nat):Int)) (o:=35) g12 p12 (by rw [recC_len hobj];decide) rfl rfl
 rw [rset35 hobj] at g13
 have R13:=R12.dG k13 (fun b hb e=>kD hb e)
 have O13:Old h1 h13:=O12.dw k13 (fun d hd e=>by have:=O3.next;omega)
 obtain ⟨h14,e14,K14⟩:=r73 R13 (by rw [List.length_drop];omega)
 have R14:=K14.rd
 rw [List.drop_drop] at R14
 have O14:Old h1 h14:=O13.dw K14.kept (fun d hd e=>by omega)
 have g14:=K14.kept.fj g13 (by omega)
 have p14:h14.n0≤h3.next:=by rw [K14.kept.n0];exact p13
 obtain ⟨h15,e15,K15⟩:=r73 R14 (by rw [List.length_drop];omega)
 have R15:=K15.rd
 rw [List.drop_drop] at R15
 have O15:Old h1 h15:=O14.dw K15.kept (fun d hd e=>by omega)
 have g15:=K15.kept.fj g14 (by omega)
 have p15:h15.n0≤h3.next:=by rw [K15.kept.n0];exact p14
 obtain ⟨h16,e16,K16⟩:=r73 R15 (by rw [List.length_drop];omega)
 have R16:=K16.rd
 rw [List.drop_drop] at R16
 have O16:Old h1 h16:=O15.dw K16.kept (fun d hd e=>by omega)
 have g16:=K16.kept.fj g15 (by omega)
 have p16:h16.n0≤h3.next:=by rw [K16.kept.n0];exact p15
 obtain ⟨h17,e17,k17,g17,p17,_⟩:=stored (v := .bool (be ((l.drop 50).take 1)==1)) (o:=36) g16 p16 (by rw [recC_len hobj];decide) rfl rfl
 rw [rset36 hobj] at g17
 have R17:=R16.dG k17 (fun b hb e=>kD hb e)
 have O17:Old h1 h17:=O16.dw k17 (fun d hd e=>by have:=O3.next;omega)
 obtain ⟨h18,e18,k18,g18,p18,_⟩:=stored (v := .int .i64 ((be ((l.drop 51).take 1):Nat):Int)) (o:=37) g17 p17 (by rw [recC_len hobj];decide) rfl rfl
 rw [rset37 hobj] at g18
 have R18:=R17.dG k18 (fun b hb e=>kD hb e)
 have O18:Old h1 h18:=O17.dw k18 (fun d hd e=>by have:=O3.next;omega)
 obtain ⟨h19,e19,k19,g19,p19,_⟩:=stored (v := .int .i64 ((be ((l.drop 52).take 1):Nat):Int)) (o:=38) g18 p18 (by rw [recC_len hobj];decide) rfl rfl
 rw [rset38 hobj] at g19
 have R19:=R18.dG k19 (fun b hb e=>kD hb e)
 have O19:Old h1 h19:=O18.dw k19 (fun d hd e=>by have:=O3.next;omega)
 have g19:h19.get h3.next=some (recC (decRx l)):=g19
 have wx:=decRx_wf h53 hby
 have l19:cq 39 (ptr h3.next 0) h19=some (.agg (recC (decRx l)).toArray,h19):=ek g19 (bA wx).1 (bA wx).2.1
 have w1 : ∀ j,IntKind.wrap .i64 ((be ((l.drop j).take 1):Nat):Int)=((be ((l.drop j).take 1):Nat):Int):=fun j=>by
  have:=be1_lt hby j
  exact wrap_i64 (by omega) (by omega)
 have w33:=w1 33
 have w51:=w1 51
 have w52:=w1 52
 have hheld:((((be ((l.drop 50).take 1):Nat):Int))==1)=(be ((l.drop 50).take 1)==1):=by
  by_cases e:be ((l.drop 50).take 1)=1
  ·rw [e];rfl
  ·rw [beq_eq_false_iff_ne.2 e,beq_eq_false_iff_ne.2 (by omega)]
 have g1':=Old.get O19 g1
 by_cases c3:1<be ((l.drop 50).take 1)
 ·rw [if_pos c3]
  have q3:bin Tryz.prog .gtr 5 (.int .u8 ((be ((l.drop 50).take 1):Nat):Int)) (.int .u8 1)=some (.bool true):=by rw [aE,decide_eq_true (by omega)]
  obtain ⟨h20,e20,l20,o20⟩:=rec_end (o1.trans O19) (Nat.le_refl _) g1' rfl bT.z_wf
  refine ⟨h20,ay is140 hG rfl ((t140_eq _ _ _).trans ?_),o20⟩
  unfold t140
  simp -implicitDefEqProofs only [z1,hln,q1,q2,e2,e3,bk,z4,e5,aq,Nat.zero_add,arr32,e6,e7,e8,e9,e10,e11,e12,e13,e14,e15,e16,e17,e18,e19,ba,w33,w51,w52,aG,hheld,ah,ao,q3,bz,e20]
  exact bj results140 agg61 siz61 (show 2<58 by decide) (show 3<58 by decide) _ l20
 rw [if_neg c3]
 have q3:bin Tryz.prog .gtr 5 (.int .u8 ((be ((l.drop 50).take 1):Nat):Int)) (.int .u8 1)=some (.bool false):=by rw [aE,decide_eq_false (by omega)]
 obtain ⟨h20,e20,o20⟩:=r138 (h:=h19) R19.g4 wx
 have O20:=o1.trans (O19.trans o20)
 have g1'':=Old.get o20 g1'
 cases c4:recB (decRx l) with
 |false=>
  rw [c4] at e20
  obtain ⟨h21,e21,l21,o21⟩:=rec_end O20 (Nat.le_refl _) g1'' rfl bT.z_wf
  refine ⟨h21,ay is140 hG rfl ((t140_eq _ _ _).trans ?_),o21⟩
  unfold t140
  simp -implicitDefEqProofs only [z1,hln,q1,q2,e2,e3,bk,z4,e5,aq,Nat.zero_add,arr32,e6,e7,e8,e9,e10,e11,e12,e13,e14,e15,e16,e17,e18,e19,ba,w33,w51,w52,aG,hheld,ah,ao,q3,l19,e20,av,Bool.not_false,bz,e21]
  exact bj results140 agg61 siz61 (show 2<58 by decide) (show 3<58 by decide) _ l21
 |true=>
  rw [c4] at e20
  have l20:cq 39 (ptr h3.next 0) h20=some (.agg (recC (decRx l)).toArray,h20):=ek (Old.get o20 g19) (bA wx).1 (bA wx).2.1
  obtain ⟨h21,e21,l21,o21⟩:=rec_end O20 (Nat.le_refl _) g1'' rfl wx
  refine ⟨h21,ay is140 hG rfl ((t140_eq _ _ _).trans ?_),o21⟩
  unfold t140
  simp -implicitDefEqProofs only [z1,hln,q1,q2,e2,e3,bk,z4,e5,aq,Nat.zero_add,arr32,e6,e7,e8,e9,e10,e11,e12,e13,e14,e15,e16,e17,e18,e19,ba,w33,w51,w52,aG,hheld,ah,ao,q3,l19,e20,av,Bool.not_true,l20,e21]
  exact bj results140 agg61 siz61 (show 2<58 by decide) (show 3<58 by decide) _ l21
end Go.Proofs.YtjghlcdidopcpaaGreatDoor

