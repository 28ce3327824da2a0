/-
  A part of the proof, spaces and names shortened by a program (a claim may hold 1,500,000 bytes).
  Conditions: as each theorem states.
-/
import Derived.Test.YtjghlcdidopcpaaGreatDoorG11
namespace Go.Proofs.YtjghlcdidopcpaaGreatDoor
open Go Go.Abs
attribute [local congr] bp
theorem is35:bF Tryz.prog 35 Tryz.f35:=⟨by kernel_rfl,by kernel_rfl,by kernel_rfl,by kernel_rfl⟩
theorem is19:bF Tryz.prog 19 Tryz.f19:=⟨by kernel_rfl,by kernel_rfl,by kernel_rfl,by kernel_rfl⟩
theorem dQ (a b:Value):aY (.tuple #[a,b]) 0=some a:=rfl
theorem dX (a b:Value):aY (.tuple #[a,b]) 1=some b:=rfl
theorem fresh (cs:List Value) (h:ai) : ∃ h2,eD cs h=some (ptr h.next 0,h2)∧Old h h2∧h2.get h.next=some cs∧h2.next=h.next+1:=
 ⟨_,newC_eq _ _,Kept.alloc _ _ _,by rw [ai.aO,if_pos rfl],rfl⟩
theorem stored {h:ai} {b o:Nat} {k:dt} {v:Value} (g:h.get b=some k) (hn:h.n0≤b) (ho:o<k.length) (hc:v.cells = #[v]) (hv:v.oneCell'=true) : ∃ h2,cA 1 (ptr b o) v h=some (undef,h2)∧Kept h h2 (· = b)∧h2.get b=some (k.set o v)∧h2.n0≤b∧h2.next=h.next:=
 ⟨_,stN1_at g ho hn hc hv,Kept.set hn g (.inr rfl),ai.bT hn g _,hn,rfl⟩
theorem b0 {h:ai} {b n:Nat} {k k':dt} (g:h.get b=some k) (hn:h.n0≤b) (hl:k.length=n) (hl':k'.length=n) (ho:aS k'=true) : ∃ h2,cA n (ptr b 0) (.agg k'.toArray) h=some (undef,h2)∧Kept h h2 (· = b)∧h2.get b=some k'∧h2.n0≤b∧h2.next=h.next:=
 ⟨_,stN_whole g hn hl hl' ho,Kept.set hn g (.inr rfl),ai.bT hn g _,hn,rfl⟩
theorem fmC_at : ∀ k,k<14→(formsC.drop (k*5)).take 5=fmC k:=fun k hk=>by
 match k,hk with
 | 0,_=>rfl
 | 1,_=>rfl
 | 2,_=>rfl
 | 3,_=>rfl
 | 4,_=>rfl
 | 5,_=>rfl
 | 6,_=>rfl
 | 7,_=>rfl
 | 8,_=>rfl
 | 9,_=>rfl
 | 10,_=>rfl
 | 11,_=>rfl
 | 12,_=>rfl
 | 13,_=>rfl
theorem fmC_not {k:Nat} (h:kindOk k=false):fmC k = [(.string ⟨#[]⟩),.nilFunc,.nilFunc,.nilFunc,.nilFunc]:=by
 by_cases h0:k=0
 ·subst h0;rfl
 ·by_cases h1:14≤k
  ·obtain ⟨n,rfl⟩ : ∃ n,k=n+14:=⟨k-14,by omega⟩
   rfl
  ·exfalso
   have:kindOk k=true:=by
    unfold kindOk
    rw [Nat.ble_eq_true_of_le (by omega),Nat.ble_eq_true_of_le (by omega)];rfl
   rw [this] at h;cases h
theorem fmC_ok (k:Nat):Abs.bw (fmC k)=true∧aS (fmC k)=true∧(fmC k).length=5:=by
 have h:=fun v (hv:v∈fmC k)=>fmC_flat k v hv
 have key : ∀ v,flat v=true→isHole v=false∧v.oneCell'=true:=fun v hv=>by
  cases v<;>first|exact ⟨rfl,rfl⟩|(simp [flat] at hv)|skip
  all_goals first|exact ⟨rfl,rfl⟩|skip
  ·rename_i a;cases a<;>first|exact ⟨rfl,rfl⟩|simp [] at hv
 refine ⟨?_,?_,rfl⟩
 ·unfold Abs.bw
  rw [List.all_eq_true]
  exact fun v hv=>by rw [(key v (h v hv)).1];rfl
 ·unfold aS
  rw [List.all_eq_true]
  exact fun v hv=>(key v (h v hv)).2
theorem formsC_ok:aS formsC=true∧formsC.length=70:=by
 refine ⟨?_,rfl⟩
 unfold aS
 rw [List.all_eq_true]
 intro v hv
 obtain ⟨k,_,hk⟩:=List.mem_flatMap.1 hv
 have:=(fmC_ok k).2.1
 unfold aS at this
 rw [List.all_eq_true] at this
 exact this v hk
theorem r35 {h:ai} (hG:4≤h.n0) {k:Nat} (hk:k<256) : ∃ h',CW 35 [.int .u8 (k:Int)] h=some (.tuple #[.agg (fmC k).toArray,.bool (kindOk k)],h')∧Old h h':=by
 have hr:Tryz.f35.results.toList = [.cell 2 75,.tmp 3]:=by kernel_rfl
 have a75:aggT Tryz.prog 75=some true:=by kernel_rfl
 have s75:cu Tryz.prog 75=some 5:=by kernel_rfl
 obtain ⟨h1,z1,o1,g1,n1⟩:=fresh [(.string ⟨#[]⟩),.nilFunc,.nilFunc,.nilFunc,.nilFunc] h
 have f77:=r77 h1
 obtain ⟨h2,z2,o2,g2,n2⟩:=fresh [(.string ⟨#[]⟩),.nilFunc,.nilFunc,.nilFunc,.nilFunc,(.string ⟨#[]⟩),.nilFunc,.nilFunc,.nilFunc,.nilFunc,(.string ⟨#[]⟩),.nilFunc,.nilFunc,.nilFunc,.nilFunc,(.string ⟨#[]⟩),.nilFunc,.nilFunc,.nilFunc,.nilFunc,(.string ⟨#[]⟩),.nilFunc,.nilFunc,.nilFunc,.nilFunc,(.string ⟨#[]⟩),.nilFunc,.nilFunc,.nilFunc,.nilFunc,(.string ⟨#[]⟩),.nilFunc,.nilFunc,.nilFunc,.nilFunc,(.string ⟨#[]⟩),.nilFunc,.nilFunc,.nilFunc,.nilFunc,(.string ⟨#[]⟩),.nilFunc,.nilFunc,.nilFunc,.nilFunc,(.string ⟨#[]⟩),.nilFunc,.nilFunc,.nilFunc,.nilFunc,(.string ⟨#[]⟩),.nilFunc,.nilFunc,.nilFunc,.nilFunc,(.string ⟨#[]⟩),.nilFunc,.nilFunc,.nilFunc,.nilFunc,(.string ⟨#[]⟩),.nilFunc,.nilFunc,.nilFunc,.nilFunc,(.string ⟨#[]⟩),.nilFunc,.nilFunc,.nilFunc,.nilFunc] h1
 have l70:([(.string ⟨#[]⟩),.nilFunc,.nilFunc,.nilFunc,.nilFunc,(.string ⟨#[]⟩),.nilFunc,.nilFunc,.nilFunc,.nilFunc,(.string ⟨#[]⟩),.nilFunc,.nilFunc,.nilFunc,.nilFunc,(.string ⟨#[]⟩),.nilFunc,.nilFunc,.nilFunc,.nilFunc,(.string ⟨#[]⟩),.nilFunc,.nilFunc,.nilFunc,.nilFunc,(.string ⟨#[]⟩),.nilFunc,.nilFunc,.nilFunc,.nilFunc,(.string ⟨#[]⟩),.nilFunc,.nilFunc,.nilFunc,.nilFunc,(.string ⟨#[]⟩),.nilFunc,.nilFunc,.nilFunc,.nilFunc,(.string ⟨#[]⟩),.nilFunc,.nilFunc,.nilFunc,.nilFunc,(.string ⟨#[]⟩),.nilFunc,.nilFunc,.nilFunc,.nilFunc,(.string ⟨#[]⟩),.nilFunc,.nilFunc,.nilFunc,.nilFunc,(.string ⟨#[]⟩),.nilFunc,.nilFunc,.nilFunc,.nilFunc,(.string ⟨#[]⟩),.nilFunc,.nilFunc,.nilFunc,.nilFunc,(.string ⟨#[]⟩),.nilFunc,.nilFunc,.nilFunc,.nilFunc]:dt).length=70:=rfl
 have p2:h2.n0≤h1.next:=by rw [o2.n0];exact h1.aQ
 obtain ⟨h3,s2,k3,g3,-,-⟩:=b0 (n:=70) g2 p2 l70 formsC_ok.2 formsC_ok.1
 have g31:=k3.fo (Old.get o2 g1) (by omega)
 have O3:Old h h3:=(o1.trans o2).dr k3 (fun d hd e=>by omega)
 have p3:h3.n0≤h.next:=by rw [O3.n0];exact h.aQ
 have c:=fmC_ok k
 obtain ⟨h4,s4,k4,g4,-,-⟩:=b0 (n:=5) (k':=fmC k) g31 p3 rfl c.2.2 c.2.1
 have O4:Old h h4:=O3.dr k4 (fun d hd e=>by omega)
 have l4:cq 5 (ptr h.next 0) h4=some (.agg (fmC k).toArray,h4):=ldN_mid g4 (A := []) (B:=fmC k) (C := []) (by simp) rfl c.2.2 c.1
 have hw:IntKind.wrap .i64 ((k:Nat):Int)=(k:Int):=wrap_i64 (by omega) (by omega)
 refine ⟨h4,az is35 hG rfl ((t35_eq _ _ _).trans ?_),O4⟩
 unfold t35
 by_cases h0:k<1
 ·have q0:decide ((k:Int)<1)=true:=decide_eq_true (by omega)
  have hn:kindOk k=false:=by
   obtain rfl:k=0:=by omega
   rfl
  have bz:cQ [(.string ⟨#[]⟩),.nilFunc,.nilFunc,.nilFunc,.nilFunc] []=some (.agg (fmC k).toArray):=by rw [fmC_not hn];rfl
  simp -implicitDefEqProofs only [z1, f77, z2, s2, q0, bz, s4, ah, ao, au, sf, ak, if_true, aG]
  rw [bo hr a75 s75 (show 2<17 by decide) (show 3<17 by decide) _ l4,hn]
  rfl
 ·have q0:decide ((k:Int)<1)=false:=decide_eq_false (by omega)
  by_cases h1':14≤k
  ·have q1:decide ((k:Int)≥14)=true:=decide_eq_true (by omega)
   have hn:kindOk k=false:=by
    unfold kindOk
    rw [show Nat.ble k 13=false by
     cases hb:Nat.ble k 13 with
     |false=>rfl
     |true=>have:=Nat.le_of_ble_eq_true hb;omega,Bool.and_false]
   have bz:cQ [(.string ⟨#[]⟩),.nilFunc,.nilFunc,.nilFunc,.nilFunc] []=some (.agg (fmC k).toArray):=by rw [fmC_not hn];rfl
   simp -implicitDefEqProofs only [z1, f77, z2, s2, q0, bg, hw, q1, bz, s4, ah, ao, au, beq_self_eq_true, al, Bool.false_eq_true, if_false, aK, aG]
   rw [bo hr a75 s75 (show 2<17 by decide) (show 3<17 by decide) _ l4,hn]
   rfl
  ·have q1:decide ((k:Int)≥14)=false:=decide_eq_false (by omega)
   have hy:kindOk k=true:=by
    unfold kindOk
    rw [Nat.ble_eq_true_of_le (by omega),Nat.ble_eq_true_of_le (by omega)];rfl
   have ix:idxA 14 5 (ptr h1.next 0) (.int .u8 (k:Int))=some (ptr h1.next (k*5)):=by
    unfold idxA
    simp only
    rw [if_pos (by omega),Int.toNat_natCast,ar,Nat.zero_add]
   have l5:cq 5 (ptr h1.next (k*5)) h3=some (.agg (fmC k).toArray,h3):=by
    have:=ldN_at (o:=k*5) (n:=5) g3 (by rw [formsC_ok.2];omega) (by rw [fmC_at k (by omega)];exact c.1)
    rw [fmC_at k (by omega)] at this
    exact this
   simp -implicitDefEqProofs only [z1, f77, z2, s2, q0, bg, hw, q1, ix, l5, s4, ah, ao, au, beq_self_eq_true, al, Bool.false_eq_true, if_false, aK, aG]
   rw [bo hr a75 s75 (show 2<17 by decide) (show 3<17 by decide) _ l4,hy]
   rfl
def chkB (k:Nat) (m:aV):Bool:=match k with
 | 1|2|3=>tabB m
 | 4|5=>rangeB m
 | 8|10=>pceB m
 | 11=>codeB m
 |_=>true
def stripM (k:Nat) (m:aV):aV:=match k with
 | 1|2=>sPing m
 | 3=>sReq m
 | 4=>sSum m
 | 5=>sItems m
 | 8|10=>sPiece m
 | 11=>sStored m
 |_=>sObj m
def fullM (m:aV):aV:={ stripM m.kind m with kind:=m.kind,from_:=m.from_,to_:=m.to_ }
def cX (m:aV):Bool:=kindOk m.kind&&peerB m.from_&&peerB m.to_ && !(m.from_==m.to_)&&chkB m.kind m&&decide (m=fullM m)
theorem kinds {k:Nat} (h:kindOk k=true):k=1∨k=2∨k=3∨k=4∨k=5∨k=6∨k=7∨k=8∨k=9∨k=10∨k=11∨k=12∨k=13:=by
 unfold kindOk at h
 rw [Bool.and_eq_true] at h
 have h1:=Nat.le_of_ble_eq_true h.1
 have h2:=Nat.le_of_ble_eq_true h.2
 omega
theorem stripM_wf {k:Nat} {m:aV} (hk:kindOk k=true) (w:m.Wf):(stripM k m).Wf:=by
 rcases kinds hk with rfl|rfl|rfl|rfl|rfl|rfl|rfl|rfl|rfl|rfl|rfl|rfl|rfl
 ·exact sPing_wf w
 ·exact sPing_wf w
 ·exact sReq_wf w
 ·exact sSum_wf w
 ·exact sItems_wf w
 ·exact sObj_wf w
 ·exact sObj_wf w
 ·exact sPiece_wf w
 ·exact sObj_wf w
 ·exact sPiece_wf w
 ·exact sStored_wf w
 ·exact sObj_wf w
 ·exact sObj_wf w
theorem fullM_wf {m:aV} (hk:kindOk m.kind=true) (w:m.Wf):(fullM m).Wf:={ stripM_wf hk w with kind:=w.kind,from_:=w.from_,to_:=w.to_ }
section
variable {h:ai} {s:dy} {m:aV} (hG:4≤h.n0) (x:Has h s m)
include hG x
theorem chk_call {k:Nat} (hk:kindOk k=true) : ∃ h',callA Tryz.prog CW (fnV (fmN k).2.1) [mv m s] h=some (.bool (chkB k m),h')∧Old h h':=by
 rcases kinds hk with rfl|rfl|rfl|rfl|rfl|rfl|rfl|rfl|rfl|rfl|rfl|rfl|rfl
 ·exact (aT CW 95 _ h).symm▸r95 hG x
 ·exact (aT CW 95 _ h).symm▸r95 hG x
 ·exact (aT CW 95 _ h).symm▸r95 hG x
 ·exact (aT CW 111 _ h).symm▸r111 hG x
 ·exact (aT CW 111 _ h).symm▸r111 hG x
 ·exact (aT CW 102 _ h).symm▸r102 hG x
 ·exact (aT CW 102 _ h).symm▸r102 hG x
 ·exact (aT CW 106 _ h).symm▸r106 hG x
 ·exact (aT CW 102 _ h).symm▸r102 hG x
 ·exact (aT CW 106 _ h).symm▸r106 hG x
 ·exact (aT CW 118 _ h).symm▸r118 hG x
 ·exact (aT CW 102 _ h).symm▸r102 hG x
 ·exact (aT CW 102 _ h).symm▸r102 hG x
theorem strip_call {k:Nat} (hk:kindOk k=true) : ∃ s' h',callA Tryz.prog CW (fnV (fmN k).2.2.1) [mv m s] h=some (mv (stripM k m) s',h')∧Has h' s' (stripM k m)∧Old h h':=by
 rcases kinds hk with rfl|rfl|rfl|rfl|rfl|rfl|rfl|rfl|rfl|rfl|rfl|rfl|rfl
 ·exact (aT CW 96 _ h).symm▸r96 hG x
 ·exact (aT CW 96 _ h).symm▸r96 hG x
 ·exact (aT CW 99 _ h).symm▸r99 hG x
 ·exact (aT CW 112 _ h).symm▸r112 hG x
 ·exact (aT CW 115 _ h).symm▸r115 hG x
 ·exact (aT CW 103 _ h).symm▸r103 hG x
 ·exact (aT CW 103 _ h).symm▸r103 hG x
 ·exact (aT CW 107 _ h).symm▸r107 hG x
 ·exact (aT CW 103 _ h).symm▸r103 hG x
 ·exact (aT CW 107 _ h).symm▸r107 hG x
 ·exact (aT CW 119 _ h).symm▸r119 hG x
 ·exact (aT CW 103 _ h).symm▸r103 hG x
 ·exact (aT CW 103 _ h).symm▸r103 hG x
theorem r22m {s':dy} {m':aV} (x':Has h s' m') (sm:m.n.Small) : ∃ h',CW 22 [mv m s,mv m' s'] h=some (.bool (decide (m=m')),h')∧Old h h':=by
 obtain ⟨r,h',e,hr,o⟩:=r22 hG x.sl x'.sl (aV.ok x.wf) (aV.ok x'.wf) sm
 refine ⟨h',?_,o⟩
 have:r=decide (m=m'):=by
  by_cases q:m=m'
  ·rw [decide_eq_true q,hr.2 (by rw [q])]
  ·rw [decide_eq_false q]
   cases r with
   |false=>rfl
   |true=>exact absurd (aV.d_inj x.wf x'.wf (hr.1 rfl)) q
 rw [←this];exact e
set_option maxRecDepth 100000 in
theorem r19 (sm:m.n.Small) : ∃ h',CW 19 [mv m s] h=some (.int .i64 (if cX m then 0 else 2),h')∧Old h h':=by
 obtain ⟨h1,b1,o1,x1,A,n1,-⟩:=fk x
 have hG1:4≤h1.n0:=by rw [o1.n0];exact hG
 obtain ⟨h2,e2,o2⟩:=r35 hG1 x.wf.kind
 have O2:=o1.trans o2
 obtain ⟨h3,z3,o3,g3,_⟩:=fresh [(.string ⟨#[]⟩),.nilFunc,.nilFunc,.nilFunc,.nilFunc] h2
 have c:=fmC_ok m.kind
 have p3:h3.n0≤h2.next:=by rw [o3.n0];exact h2.aQ
 obtain ⟨h4,s4,k4,g4,-,-⟩:=b0 (n:=5) (k':=fmC m.kind) g3 p3 rfl c.2.2 c.2.1
 have o24:Old h2 h4:=o3.dr k4 (fun d hd e=>by omega)
 have O4:=O2.trans o24
 have o14:=o2.trans o24
 have hG4:4≤h4.n0:=by rw [O4.n0];exact hG
 have x4:=x1.bG o14
 have A4:=c9 x4 (Old.get o14 A.g)
 have f1:aR (ptr h2.next 1) h4=some (fnV (fmN m.kind).2.1,h4):=aW g4 rfl (by unfold fnV;split<;>rfl)
 have e5:=r46 hG4 m.from_
 have e6:=r46 hG4 m.to_
 cases q0:kindOk m.kind with
 |false=>
  refine ⟨h4,az is19 hG rfl ((t19_eq _ _ _).trans ?_),O4⟩
  unfold t19 cX
  simp -implicitDefEqProofs only [b1, A.l0, e2, dQ, dX, z3, s4, ah, ao, au, sf, ak, Bool.false_eq_true, if_false, if_true, ar, Nat.zero_add, Bool.not_false, aw, q0, Bool.and_true, Bool.false_and, Bool.not_false]
 |true=>
 cases q1:peerB m.from_ with
 |false=>
  refine ⟨h4,az is19 hG rfl ((t19_eq _ _ _).trans ?_),O4⟩
  unfold t19 cX
  simp -implicitDefEqProofs only [b1, A.l0, e2, dQ, dX, z3, s4, A4.l1, e5, ah, ao, au, sf, beq_self_eq_true, al, ak, Bool.false_eq_true, if_false, if_true, ar, Nat.zero_add, Bool.not_true, Bool.not_false, aw, q0, q1, Bool.and_true, Bool.and_false, Bool.false_and, Bool.not_true, Bool.not_false]
 |true=>
 cases q2:peerB m.to_ with
 |false=>
  refine ⟨h4,az is19 hG rfl ((t19_eq _ _ _).trans ?_),O4⟩
  unfold t19 cX
  simp -implicitDefEqProofs only [b1, A.l0, e2, dQ, dX, z3, s4, A4.l1, e5, A4.l2, e6, ah, ao, au, sf, beq_self_eq_true, al, ak, Bool.false_eq_true, if_false, if_true, ar, Nat.zero_add, Bool.not_true, Bool.not_false, aw, q0, q1, q2, Bool.and_true, Bool.and_false, Bool.false_and, Bool.not_true, Bool.not_false]
 |true=>
 cases q3:m.from_==m.to_ with
 |true=>
  refine ⟨h4,az is19 hG rfl ((t19_eq _ _ _).trans ?_),O4⟩
  unfold t19 cX
  simp -implicitDefEqProofs only [b1, A.l0, e2, dQ, dX, z3, s4, A4.l1, e5, A4.l2, e6, ah, ao, au, sf, beq_self_eq_true, al, ak, Bool.false_eq_true, if_false, if_true, ar, Nat.zero_add, Bool.not_true, aw, aJ, q0, q1, q2, q3, Bool.and_true, Bool.and_false, Bool.false_and, Bool.not_true]
 |false=>
 obtain ⟨h5,e7,o5⟩:=chk_call hG4 x4 q0
 cases q4:chkB m.kind m with
 |false=>
  refine ⟨h5,az is19 hG rfl ((t19_eq _ _ _).trans ?_),O4.trans o5⟩
  unfold t19 cX
  simp -implicitDefEqProofs only [b1, A.l0, e2, dQ, dX, z3, s4, A4.l1, e5, A4.l2, e6, f1, A4.all, e7, ah, ao, au, beq_self_eq_true, al, Bool.false_eq_true, if_false, ar, Nat.zero_add, Bool.not_true, Bool.not_false, aw, aJ, q0, q1, q2, q3, q4, Bool.and_true, Bool.and_false, Bool.false_and, Bool.not_true, Bool.not_false]
 |true=>
 have O5:=O4.trans o5
 have x5:=x4.bG o5
 have A5:=c9 x5 (Old.get o5 A4.g)
 have g5:=Old.get o5 g4
 have hG5:4≤h5.n0:=by rw [O5.n0];exact hG
 have f2:aR (ptr h2.next 2) h5=some (fnV (fmN m.kind).2.2.1,h5):=aW g5 rfl (by unfold fnV;split<;>rfl)
 obtain ⟨s6,h6,e8,X6,o6⟩:=strip_call hG5 x5 q0
 obtain ⟨hz,h7,z7,oz,u7,-,X7,o7,g7,o7'⟩:=made (Kept.refl h6 _) X6
 have O7:=(O5.trans o6).trans o7
 have A7:=c9 ((x5.bG o6).bG o7) (Old.get o7 (Old.get o6 A5.g))
 have hlt:h.next<h6.next:=by
  have:=(o14.trans (o5.trans o6)).next
  omega
 have nz:h6.next≠h.next:=by omega
 have p7:h7.n0≤h6.next:=by rw [o7.n0];exact h6.aQ
 have len7:(m.d.cells s).length=116:=cells_len (aV.ok x.wf)
 have len7':((stripM m.kind m).d.cells s6).length=116:=cells_len (aV.ok (stripM_wf q0 x.wf))
 obtain ⟨h8,t0,k8,g8,p8,-⟩:=stored (v := .int .u8 (m.kind:Int)) (o:=0) g7 p7 (by omega) rfl rfl
 obtain ⟨h9,t1,k9,g9,p9,-⟩:=stored (v := .int .i64 m.from_) (o:=1) g8 p8 (by rw [List.length_set];omega) rfl rfl
 obtain ⟨h10,t2,k10,g10,-,-⟩:=stored (v := .int .i64 m.to_) (o:=2) g9 p9 (by rw [List.length_set,List.length_set];omega) rfl rfl
 have g10:h10.get h6.next=some ((fullM m).d.cells s6):=g10
 have kk:=(k8.trans k9).trans k10
 have o610:Old h6 h10:=o7'.dr kk (fun d hd e=>by omega)
 have O10:=(O5.trans o6).trans o610
 have x10:=(x5.bG o6).bG o610
 have A10:=c9 x10 (Old.get o610 (Old.get o6 A5.g))
 have X10:Has h10 s6 (fullM m):=⟨⟨(X6.bG o610).sl.a,(X6.bG o610).sl.b,(X6.bG o610).sl.c,(X6.bG o610).sl.d,(X6.bG o610).sl.e,(X6.bG o610).sl.f⟩,fullM_wf q0 x.wf⟩
 have B10:=c9 X10 g10
 have l1:aR (ptr h.next 1) h8=some (.int .i64 m.from_,h8):=aW (k8.fo A7.g (fun e=>nz e.symm)) rfl
 have l2:aR (ptr h.next 2) h8=some (.int .i64 m.to_,h8):=aW (k8.fo A7.g (fun e=>nz e.symm)) rfl
 have l2':aR (ptr h.next 2) h9=some (.int .i64 m.to_,h9):=aW (k9.fo (k8.fo A7.g (fun e=>nz e.symm)) (fun e=>nz e.symm)) rfl
 have w1:=chk_at l1 (by simp [Abs.veq])
 have w2:=chk_at l2 (by simp [Abs.veq])
 have w3:=chk_at l2' (by simp [Abs.veq])
 obtain ⟨h11,e11,o11⟩:=r22m (by rw [O10.n0];exact hG) x10 X10 sm
 refine ⟨h11,az is19 hG rfl ((t19_eq _ _ _).trans ?_),O10.trans o11⟩
 unfold t19 cX
 cases q5:decide (m=fullM m) with
 |false=>
  rw [q5] at e11
  simp -implicitDefEqProofs only [b1, A.l0, e2, dQ, dX, z3, s4, A4.l1, e5, A4.l2, e6, f1, A4.all, e7, f2, A5.all, e8, z7, u7, A7.l0, A7.l1, A7.l2, t0, t1, t2, w1, w2, w3, A10.all, B10.all, e11, ah, ao, au, beq_self_eq_true, al, Bool.false_eq_true, if_false, ar, Nat.zero_add, Bool.not_true, Bool.not_false, aw, aJ, q0, q1, q2, q3, q4, Bool.and_true, Bool.and_false, Bool.not_true, Bool.not_false]
 |true=>
  rw [q5] at e11
  simp -implicitDefEqProofs only [b1, A.l0, e2, dQ, dX, z3, s4, A4.l1, e5, A4.l2, e6, f1, A4.all, e7, f2, A5.all, e8, z7, u7, A7.l0, A7.l1, A7.l2, t0, t1, t2, w1, w2, w3, A10.all, B10.all, e11, ah, ao, au, beq_self_eq_true, al, Bool.false_eq_true, if_false, if_true, ar, Nat.zero_add, Bool.not_true, Bool.not_false, aw, aJ, q0, q1, q2, q3, q4, Bool.and_true, Bool.not_true, Bool.not_false]
end
end Go.Proofs.YtjghlcdidopcpaaGreatDoor

namespace Go.Proofs.YtjghlcdidopcpaaGreatDoor
open Go Go.Abs
attribute [local congr] bp
theorem is34:bF Tryz.prog 34 Tryz.f34:=⟨by kernel_rfl,by kernel_rfl,by kernel_rfl,by kernel_rfl⟩
theorem r34 {h:ai} (hG:4≤h.n0) {a:Option Addr} {n c:Nat} {l:List Nat} (hl:aA a n h=some l) (hn:n<9223372036854775807) : ∃ h',CW 34 [.slice a n c] h=some (u32 (crcN l),h')∧Old h h':=by
 obtain ⟨h1,e,o⟩:=t34_is (C:=CW) a n c l h hl hn
 exact ⟨h1,az is34 hG rfl ((t34_eq _ _ _).trans e),o⟩
theorem is52:bF Tryz.prog 52 Tryz.f52:=⟨by kernel_rfl,by kernel_rfl,by kernel_rfl,by kernel_rfl⟩
theorem r52 {h:ai} {N w lim:Nat} {l:List Nat} (W:IsW h N w lim l) {a:Option Addr} {n c:Nat} {m:List Nat} (hm:aA a n h=some m) (ha : ∀ y,a=some y→0<n→Fr h w y.block) (hfit:l.length+n≤lim) :
  ∃ h',CW 52 [ptr w 0,.slice a n c] h=some (.tuple #[],h')∧IsW h' N w lim (l++m)∧WS w h h':=by
 obtain ⟨h1,e1,W1,k1⟩:=r85 W (n:=n) hfit
 have hsm:=W.small
 obtain ⟨v1,v2,g1,g2,f1,f2,f3,f4,f5⟩:=w_append (c:=c) W1 (k1.bytes hm ha) (by omega)
 have hl:bC (.slice a n c)=some (aH n):=rfl
 refine ⟨g2,az is52 W.g4 rfl ((t52_eq _ _ _ _).trans ?_),f4,k1.trans f5⟩
 unfold t52
 simp -implicitDefEqProofs only [ah,hl,ao,e1,bh,ar,Nat.zero_add,f1,f2,f3]
theorem agg28:aggT Tryz.prog 28=some true:=by kernel_rfl
theorem siz28:cu Tryz.prog 28=some 32:=by kernel_rfl
theorem arr32 (b o:Nat):cP 32 1 (ptr b o) none none none=some (.slice (some ⟨b,o,none⟩) 32 32):=by
 unfold cP
 rfl
theorem IsR.dL {h h':ai} {B:Nat→Prop} {p r:Nat} {l:List Nat} {e:Int} (R:IsR h p r l e) (k:Kept h h' B) (hB : ∀ b,b=r∨(p≤b∧b<r) → ¬B b):IsR h' p r l e:=by
 obtain ⟨a,n,c,h1,h2,h3,h4⟩:=R.ex
 exact ⟨⟨a,n,c,k.fo h1 (hB r (.inl rfl)),k.bytes h2 (fun y hy _=>hB _ (.inr (h4 y hy))),h3,h4⟩,k.n0▸R.n0,R.len,k.n0▸R.g4,R.pr⟩
theorem pad_len {m:List Nat} (h:m.length≤32):(eA m).length=32:=by
 unfold eA
 rw [List.length_append,List.length_replicate]
 omega
theorem splice_pad {m:List Nat} {n:Nat} (hn:m.length=n) (h:n≤32):spliceN z32 0 (m.take (min n 32))=eA m:=by
 unfold spliceN eA z32
 rw [Nat.min_eq_left h,List.take_of_length_le (l:=m) (by omega),List.take_zero,List.nil_append,Nat.zero_add,List.drop_replicate]
theorem dY (l:List Nat):Abs.bw (bY l)=true∧aS (bY l)=true:=by
 refine ⟨?_,?_⟩
 ·unfold Abs.bw
  rw [List.all_eq_true]
  intro v hv
  obtain ⟨x,_,rfl⟩:=List.mem_map.1 hv
  rfl
 ·unfold aS
  rw [List.all_eq_true]
  intro v hv
  obtain ⟨x,_,rfl⟩:=List.mem_map.1 hv
  rfl
theorem ez {h:ai} {b n:Nat} {k:List Value} (g:h.get b=some k) (hl:k.length=n) (nh:Abs.bw k=true):cq n (ptr b 0) h=some (.agg k.toArray,h):=ldN_mid g (A := []) (B:=k) (C := []) (by simp) rfl hl nh
section
variable {p r:Nat} {s:Rd} {h:ai} (R:fj h p r s)
include R
theorem q130 : ∃ h',CW 130 [ptr r 0] h=some (.agg (bY (eA (s.take 32).1)).toArray,h')∧fj h' p r (s.take 32).2∧Kept h h' (fun c=>c=r):=by
 have hr:Tryz.f130.results.toList = [.cell 2 28]:=by kernel_rfl
 have rl:r<h.next:=R.lt
 obtain ⟨h1,z1,o1,g1,n1⟩:=fresh (List.replicate 32 (.int .u8 0)) h
 have R1:fj h1 p r s:=R.dL o1 (fun _ _ h=>h)
 obtain ⟨a,c,h2,e2,f2,f3,R2,k2,_⟩:=q74 R1 (n:=32)
 have e2:CW 74 [ptr r 0,.int .i64 32] h1=_:=e2
 have g2:h2.get h.next=some (bY z32):=k2.fo g1 (by omega)
 have p2:h2.n0≤h.next:=by rw [k2.n0,o1.n0];exact h.aQ
 have hl:=s.take_len 32
 have hm:(s.take 32).1.length=(s.take 32).1.length:=rfl
 obtain ⟨h3,e3,q1,q2,q3,q4⟩:=copy_bytes (dl:=32) (dc:=32) (c:=c) (s:=none) (off:=0) (b:=h.next) g2 p2 f2 (by
  show 0+min _ 32≤32
  omega)
 rw [splice_pad rfl hl] at q3
 have k3:Kept h2 h3 (fun c=>c=h.next):=⟨q1,by omega,fun d _ hd=>q4 d hd⟩
 have p3:h3.n0≤h.next:=by rw [q1];exact p2
 have hpl:(bY (eA (s.take 32).1)).length=32:=by rw [List.length_map];exact pad_len hl
 have l3:=ez (n:=32) q3 hpl (dY _).1
 obtain ⟨h4,t4,k4,g4,_,_⟩:=b0 (n:=32) q3 p3 hpl hpl (dY _).2
 have l4:=ez (n:=32) g4 hpl (dY _).1
 have kk:=k3.trans k4
 refine ⟨h4,az is130 R.g4 rfl ((t130_eq _ _ _).trans ?_),R2.dL kk (fun b hb e=>by omega),((o1.mono (B':=fun c=>c=r) (fun _ _ h=>h.elim)).trans k2).dr kk (fun d hd e=>by omega)⟩
 unfold t130
 simp -implicitDefEqProofs only [z1,ah,arr32,ao,e2,e3,l3,t4]
 exact fK hr agg28 siz28 (show 2<8 by decide) _ l4
theorem q149 : ∃ h',CW 149 [ptr r 0] h=some (.agg (bY (eA (s.take 32).1)).toArray,h')∧fj h' p r (s.take 32).2∧Kept h h' (fun c=>c=r):=by
 have hr:Tryz.f149.results.toList = [.cell 2 28]:=by kernel_rfl
 have rl:r<h.next:=R.lt
 obtain ⟨h0,z0,o0,g0,n0⟩:=fresh (List.replicate 32 (.int .u8 0)) h
 have R0:fj h0 p r s:=R.dL o0 (fun _ _ h=>h)
 obtain ⟨h1,z1,o1,g1,n1⟩:=fresh (List.replicate 32 (.int .u8 0)) h0
 have R1:fj h1 p r s:=R0.dL o1 (fun _ _ h=>h)
 obtain ⟨a,c,h2,e2,f2,f3,R2,k2,_⟩:=q94 R1 32
 have e2:CW 94 [ptr r 0,.int .i64 32] h1=_:=e2
 have g2:h2.get h0.next=some (bY z32):=k2.fo g1 (by omega)
 have g02:=k2.fo (Old.get o1 g0) (by omega)
 have p2:h2.n0≤h0.next:=by rw [k2.n0,o1.n0];exact h0.aQ
 have hl:=s.take_len 32
 obtain ⟨h3,e3,q1,q2,q3,q4⟩:=copy_bytes (dl:=32) (dc:=32) (c:=c) (s:=none) (off:=0) (b:=h0.next) g2 p2 f2 (by
  show 0+min _ 32≤32
  omega)
 rw [splice_pad rfl hl] at q3
 have k3:Kept h2 h3 (fun c=>c=h0.next):=⟨q1,by omega,fun d _ hd=>q4 d hd⟩
 have hpl:(bY (eA (s.take 32).1)).length=32:=by rw [List.length_map];exact pad_len hl
 have l3:=ez (n:=32) q3 hpl (dY _).1
 have g03:=k3.fo g02 (by omega)
 have p3:h3.n0≤h.next:=by rw [q1,k2.n0,o1.n0,o0.n0];exact h.aQ
 obtain ⟨h4,t4,k4,g4,_,_⟩:=b0 (n:=32) (k':=bY (eA (s.take 32).1)) g03 p3 rfl hpl (dY _).2
 have l4:=ez (n:=32) g4 hpl (dY _).1
 refine ⟨h4,az is149 R.g4 rfl ((t149_eq _ _ _).trans ?_),(R2.dL k3 (fun b hb e=>by omega)).dL k4 (fun b hb e=>by omega),((((o0.trans o1).mono (B':=fun c=>c=r) (fun _ _ h=>h.elim)).trans k2).dr k3 (fun d hd e=>by omega)).dr k4 (fun d hd e=>by omega)⟩
 unfold t149
 simp -implicitDefEqProofs only [z0,z1,ah,arr32,ao,e2,e3,l3,t4]
 exact fK hr agg28 siz28 (show 2<9 by decide) _ l4
end
end Go.Proofs.YtjghlcdidopcpaaGreatDoor

namespace Go.Proofs.YtjghlcdidopcpaaGreatDoor
open Go Go.Abs
attribute [local congr] bp
def i8 (x:Int):Nat:=(x%256).toNat
def i16 (x:Int):Nat:=(x%65536).toNat
def i32 (x:Int):Nat:=(x%4294967296).toNat
theorem fC (x:Int):i8 x<256:=by unfold i8;omega
theorem i16_lt (x:Int):i16 x<65536:=by unfold i16;omega
theorem i32_lt (x:Int):i32 x<4294967296:=by unfold i32;omega
theorem wrap_i8 (x:Int):IntKind.wrap .u8 x=(i8 x:Nat):=by rw [wrap_u8_mod];unfold i8;omega
theorem wrap_i16 (x:Int):IntKind.wrap .u16 x=(i16 x:Nat):=by rw [wrap_u16_mod];unfold i16;omega
theorem wrap_i32 (x:Int):IntKind.wrap .u32 x=(i32 x:Nat):=by rw [wrap_u32_mod];unfold i32;omega
def bit (b:Bool):Nat:=if b then 1 else 0
def cW (r:bR):List Nat:=cG 1 r.kind++(r.obj++(cG 1 (i8 r.cM)++(cG 8 r.inc++(cG 8 r.num++(cG 1 (bit r.held)++(cG 1 (i8 r.k)++cG 1 (i8 r.n)))))))
def dR (m:aV):List Nat:=cG 2 19713++(cG 1 (i8 m.gk)++(cG 1 (i8 m.gn)++(cG 1 (i8 m.gt)++(cG 2 (i16 m.gs)++(m.cF++m.pieces.flatMap id)))))
theorem cI {h:ai} {b off:Nat} {s:Option Nat} {k A C:List Value} {l:List Nat} (g:h.get b=some k) (e:k=A++(bY l++C)) (hA:A.length=off) (hb:Bys l):aA (some ⟨b,off,s⟩) l.length h=some l:=by
 unfold aA
 rw [Option.bind_eq_some_iff]
 refine ⟨bY l,?_,bytesOf_map hb⟩
 have hm:=mid e hA (show (bY l).length=l.length from List.length_map ..)
 have hl:off+l.length≤k.length:=by rw [e,List.length_append,List.length_append,List.length_map,hA];omega
 simp only [bK,g,Nat.mul_one]
 by_cases h0:l.length=0
 ·rw [if_pos h0,List.length_eq_zero_iff.1 h0];rfl
 ·rw [if_neg h0,hm,if_pos ⟨hl,(dY l).1⟩]
theorem sliceBytes_put {g:ai} {b off m i v:Nat} {s:Option Nat} {k:dt} {l:List Nat} (h0:g.n0≤b) (hk:g.get b=some k) (hl:aA (some ⟨b,off,s⟩) m g=some l) (hi:i<m) (hv:v<256) :
  ∃ h',cA 1 (ptr b (off+i)) (u8 v) g=some (undef,h')∧aA (some ⟨b,off,s⟩) m h'=some (l.set i v)∧Kept g h' (· = b)∧h'.next=g.next:=by
 obtain ⟨hlen,hb,hat⟩:=aC hl
 obtain ⟨b',off',s',k',he,hk',hkl,hc⟩:=hat (by omega)
 cases he
 rw [hk] at hk';cases hk'
 obtain ⟨h',e1,e2,e3,_,e5⟩:=stored (v:=u8 v) (o:=off+i) hk h0 (by omega) rfl rfl
 refine ⟨h',e1,?_,e2,e5⟩
 have hcells:(k.drop off).take m=bY l:=by
  refine List.ext_getElem? fun j => ?_
  rw [List.getElem?_take]
  by_cases hj:j<m
  ·rw [if_pos hj,List.getElem?_drop,hc j hj,List.getElem?_map,List.getD_eq_getElem?_getD,List.getElem?_eq_getElem (by omega)]
   rfl
  ·rw [if_neg hj,List.getElem?_eq_none (by rw [List.length_map];omega)]
 have hsplit:(k.set (off+i) (u8 v))=k.take off++(bY (l.set i v)++k.drop (off+m)):=by
  have h1:k=k.take off++(bY l++k.drop (off+m)):=by
   rw [←hcells,←List.drop_drop,List.take_append_drop,List.take_append_drop]
  have h2:(k.take off).length=off:=by rw [List.length_take];omega
  conv=>lhs;rw [h1]
  rw [List.set_append_right _ _ (by omega),h2,Nat.add_sub_cancel_left,List.set_append_left _ _ (by rw [List.length_map];omega),show bY (l.set i v)=(bY l).set i (u8 v) from List.map_set ..]
 have hb':Bys (l.set i v):=fun x hx=>by
  rcases List.mem_or_eq_of_mem_set hx with hx|hx
  ·exact hb x hx
  ·omega
 have:=cI (off:=off) (s:=s) e3 hsplit (by rw [List.length_take];omega) hb'
 rw [List.length_set,hlen] at this
 exact this
theorem Old.fJ {a b c:ai} {d:Nat} (x:Old a b) (k:Kept b c (· = d)) (hd:a.next≤d):Old a c:=x.dr k (fun e he q=>by omega)
theorem idx_bytes {a:Option Addr} {n c i:Nat} {h:ai} {l:List Nat} (e:aA a n h=some l) (hi:i<n) : ∃ b off s k,a=some ⟨b,off,s⟩∧h.get b=some k∧bW 1 (.slice a n c) (aH i)=some (ptr b (off+i)):=by
 obtain ⟨b,off,s,k,rfl,hk,_⟩:=(aC e).2.2 (by omega)
 refine ⟨b,off,s,k,rfl,hk,?_⟩
 unfold bW
 simp only []
 rw [if_pos (by omega),Int.toNat_natCast,Nat.mul_one]
theorem set_nat {A B B':List Nat} {i v:Nat} (j:Nat) (h:A.length+j=i) (e:B.set j v=B'):(A++B).set i v=A++B':=by
 subst h
 rw [List.set_append_right _ _ (by omega),Nat.add_sub_cancel_left,e]
theorem rec_box2 (h:ai) {r:bR} (w:r.Wf) : ∃ h1,box (.agg (recC r).toArray) h=some (ptr h.next 0,h1)∧Old h h1∧h1.get h.next=some (recC r)∧h1.next=h.next+1:=by
 have g1:(h.alloc (recC r)).get h.next=some (recC r):=by rw [ai.aO,if_pos rfl]
 exact ⟨_,dN h _ (bB w).2.2,Kept.alloc _ _ _,g1,rfl⟩
theorem is139:bF Tryz.prog 139 Tryz.f139:=⟨by kernel_rfl,by kernel_rfl,by kernel_rfl,by kernel_rfl⟩
set_option maxRecDepth 100000 in
theorem r139 {h:ai} (hG:4≤h.n0) {r:bR} (w:r.Wf) (v:recB r=true) : ∃ a c h',CW 139 [.agg (recC r).toArray] h=some (.tuple #[.slice a 53 c,.int .i64 0],h')∧aA a 53 h'=some (cW r)∧Old h h'∧(∀ y,a=some y→h.next≤y.block):=by
 obtain ⟨h1,b1,o1,g1,n1⟩:=rec_box2 h w
 have A1:=r_ld w g1
 obtain ⟨h2,e2,o2⟩:=r138 (h:=h1) (by rw [o1.n0];exact hG) w
 rw [v] at e2
 have O2:=o1.trans o2
 have m2:=o2.next
 obtain ⟨h3,e3,W3,o3,F3⟩:=r47 h2 (by rw [O2.n0];exact hG) (lim:=53) (by decide)
 have e3:CW 47 [.int .i64 53] h2=_:=e3
 have fb:Fr h3 h2.next h.next:=F3 _ (by omega)
 have gb:h3.get h.next=some (recC r):=Old.get o3 (Old.get o2 g1)
 have K3:WS h2.next h3 h3:=WS.refl _ _
 have A3:=r_ld w gb
 obtain ⟨h4,e4,W4,k4⟩:=r50 W3 (v:=r.kind) (by simp only [List.length_nil];omega) w.kind
 have K4:=K3.trans k4
 have A4:=r_ld w ((K4.get _ fb).trans gb)
 obtain ⟨h5,e5,W5,k5⟩:=r52 W4 (n:=r.obj.length) (c:=32) (cI (off:=1) (s:=none) ((K4.get _ fb).trans gb) (A := [.int .u8 (r.kind:Int)]) rfl rfl w.obj.2) (fun y hy _=>by cases hy;exact K4.fr _ fb) (by simp only [List.length_append, ay, List.length_nil, w.obj.1];omega)
 have K5:=K4.trans k5
 have A5:=r_ld w ((K5.get _ fb).trans gb)
 obtain ⟨h6,e6,W6,k6⟩:=r50 W5 (v:=i8 r.cM) (by simp only [List.length_append, ay, List.length_nil, w.obj.1];omega) (fC _)
 have K6:=K5.trans k6
 have A6:=r_ld w ((K6.get _ fb).trans gb)
 obtain ⟨h7,e7,W7,k7⟩:=r126 W6 (v:=r.inc) (by simp only [List.length_append, ay, List.length_nil, w.obj.1];omega) w.inc
 have K7:=K6.trans k7
 have A7:=r_ld w ((K7.get _ fb).trans gb)
 obtain ⟨h8,e8,W8,k8⟩:=r126 W7 (v:=r.num) (by simp only [List.length_append, ay, List.length_nil, w.obj.1];omega) w.num
 have K8:=K7.trans k8
 have A8:=r_ld w ((K8.get _ fb).trans gb)
 obtain ⟨h9,e9,W9,k9⟩:=r50 W8 (v:=0) (by simp only [List.length_append, ay, List.length_nil, w.obj.1];omega) (by decide)
 have K9:=K8.trans k9
 have A9:=r_ld w ((K9.get _ fb).trans gb)
 obtain ⟨h10,e10,W10,k10⟩:=r50 W9 (v:=i8 r.k) (by simp only [List.length_append, ay, List.length_nil, w.obj.1];omega) (fC _)
 have K10:=K9.trans k10
 have A10:=r_ld w ((K10.get _ fb).trans gb)
 obtain ⟨h11,e11,W11,k11⟩:=r50 W10 (v:=i8 r.n) (by simp only [List.length_append, ay, List.length_nil, w.obj.1];omega) (fC _)
 have K11:=K10.trans k11
 have A11:=r_ld w ((K11.get _ fb).trans gb)
 have a5:(32:Nat)=r.obj.length:=w.obj.1.symm
 have e5:CW 52 [ptr h2.next 0,.slice (some ⟨h.next,1,none⟩) 32 32] h4=some (.tuple #[],h5):=by
  have:=e5
  rw [w.obj.1] at this
  exact this
 have e9:CW 50 [ptr h2.next 0,.int .u8 0] h8=some (.tuple #[],h9):=e9
 obtain ⟨a,c,h12,e12,s12,_,o12,f12⟩:=r48 W11 (by simp only [List.length_append, ay, List.length_nil, w.obj.1];decide)
 have hL:(((((((([]++cG 1 r.kind)++r.obj)++cG 1 (i8 r.cM))++cG 8 r.inc)++cG 8 r.num)++cG 1 0)++cG 1 (i8 r.k))++cG 1 (i8 r.n)).length=53:=by simp only [List.length_append, ay, List.length_nil, w.obj.1]
 have o212:Old h2 h12:=by
  refine ⟨by rw [o12.n0,K11.n0,o3.n0],Nat.le_trans o3.next (Nat.le_trans K11.next o12.next),fun d hd _ => ?_⟩
  have f3:=F3 d hd
  exact (Kept.get o12 d (Nat.lt_of_lt_of_le f3.1 K11.next) (fun h=>h)).trans ((K11.get d f3).trans (Kept.get o3 d hd (fun h=>h)))
 have A12:=r_ld w (Old.get o212 (Old.get o2 g1))
 rw [hL] at e12 s12
 have hle:h.next≤h11.next:=by have:=Nat.le_trans o3.next K11.next;omega
 have hs3:bin Tryz.prog .sub 3 (aH 53) (.int .i64 3)=some (aH 50):=sub3 (b:=3) (by decide) (by decide)
 have hl53:bC (.slice a 53 c)=some (aH 53):=rfl
 cases hh:r.held with
 |false=>
  refine ⟨a,c,h12,az is139 hG rfl ((t139_eq _ _ _).trans ?_),?_,O2.trans o212,fun y hy=>Nat.le_trans hle (f12 y hy)⟩
  ·have eY:aR (ptr h.next 36) h12=some (.bool false,h12):=by rw [A12.eY,hh]
   unfold t139
   simp -implicitDefEqProofs only [b1, A1.all, e2, e3, A3.l0, e4, arr32, e5, A5.l33, bg, wrap_i8, e6, A6.l34, e7, A7.l35, e8, e9, A9.l37, e10, A10.l38, e11, e12, dQ, dX, eY, ah, ao, ar, Nat.zero_add, Bool.not_true, aw]
  ·rw [s12]
   unfold cW bit
   rw [hh]
   simp only [List.append_assoc,List.nil_append,Bool.false_eq_true,if_false]
 |true=>
  obtain ⟨b,off,s,k,rfl,hk,hix⟩:=idx_bytes (c:=c) (i:=50) s12 (by decide)
  have hbn:h11.next≤b:=f12 _ rfl
  obtain ⟨h13,e13,s13,k13,n13⟩:=sliceBytes_put (i:=50) (v:=1) (by rw [o212.n0];have:=h2.aQ;have:=Nat.le_trans o3.next K11.next;omega) hk s12 (by decide) (by decide)
  refine ⟨some ⟨b,off,s⟩,c,h13,az is139 hG rfl ((t139_eq _ _ _).trans ?_),?_,Old.fJ (O2.trans o212) k13 (Nat.le_trans hle hbn),fun y hy=>by cases hy;exact Nat.le_trans hle hbn⟩
  ·have eY:aR (ptr h.next 36) h12=some (.bool true,h12):=by rw [A12.eY,hh]
   have e13:cA 1 (ptr b (off+50)) (.int .u8 1) h12=some (undef,h13):=e13
   unfold t139
   simp -implicitDefEqProofs only [b1, A1.all, e2, e3, A3.l0, e4, arr32, e5, A5.l33, bg, wrap_i8, e6, A6.l34, e7, A7.l35, e8, e9, A9.l37, e10, A10.l38, e11, e12, dQ, dX, eY, hl53, hs3, hix, e13, ah, ao, ar, Nat.zero_add, Bool.not_true, aw]
  ·rw [s13]
   unfold cW bit
   rw [hh]
   simp only [List.append_assoc,List.nil_append,if_true]
   congr 1
   rw [show cG 1 r.kind++(r.obj++(cG 1 (i8 r.cM)++(cG 8 r.inc++(cG 8 r.num++(cG 1 0++(cG 1 (i8 r.k)++cG 1 (i8 r.n)))))))=(cG 1 r.kind++(r.obj++(cG 1 (i8 r.cM)++(cG 8 r.inc++cG 8 r.num))))++(cG 1 0++(cG 1 (i8 r.k)++cG 1 (i8 r.n))) by simp only [List.append_assoc],
    set_nat (B':=cG 1 1++(cG 1 (i8 r.k)++cG 1 (i8 r.n))) 0 (by simp only [List.length_append, ay, w.obj.1]) rfl]
   simp only [List.append_assoc]
end Go.Proofs.YtjghlcdidopcpaaGreatDoor

namespace Go.Proofs.YtjghlcdidopcpaaGreatDoor
open Go Go.Abs
attribute [local congr] bp
def FrV (h:ai) (w:Nat) (v:Value):Prop := ∀ b,slB v=some b→Fr h w b
structure FrS (h:ai) (w:Nat) (s:dy):Prop where
 a:FrV h w s.a
 b:FrV h w s.b
 c:FrV h w s.c
 d:FrV h w s.d
 e:FrV h w s.e
 f:FrV h w s.f
theorem FrV.ws {h h':ai} {w:Nat} {v:Value} (f:FrV h w v) (k:WS w h h'):FrV h' w v:=fun b hb=>k.fr b (f b hb)
theorem FrS.ws {h h':ai} {w:Nat} {s:dy} (f:FrS h w s) (k:WS w h h'):FrS h' w s:=⟨f.a.ws k,f.b.ws k,f.c.ws k,f.d.ws k,f.e.ws k,f.f.ws k⟩
theorem cO.ws {h h':ai} {ks:List Kd} {v:Value} {n:Nat} {cs:List Value} {w:Nat} (x:cO h ks v n cs) (f:FrV h w v) (k:WS w h h'):cO h' ks v n cs:=by
 obtain ⟨a,c,rfl,h1,h2,h3⟩:=x
 refine ⟨a,c,rfl,h1,h2,fun hn => ?_⟩
 obtain ⟨b,off,s,q,rfl,h4,h5⟩:=h3 hn
 obtain ⟨m,rfl⟩ : ∃ m,n=m+1:=⟨n-1,by omega⟩
 exact ⟨b,off,s,q,rfl,(k.get b (f b rfl)).trans h4,h5⟩
theorem Has.ws {h h':ai} {s:dy} {m:aV} {w:Nat} (x:Has h s m) (f:FrS h w s) (k:WS w h h'):Has h' s m:=⟨⟨x.sl.a.ws f.a k,x.sl.b.ws f.b k,x.sl.c.ws f.c k,x.sl.d.ws f.d k,x.sl.e.ws f.e k,x.sl.f.ws f.f k⟩,x.wf⟩
theorem cO.bytes {h:ai} {v:Value} {l:List Nat} (x:cO h [.u8] v l.length (bY l)) (hb:Bys l) : ∃ a c,v = .slice a l.length c∧aA a l.length h=some l∧(∀ y,a=some y→0<l.length→slB v=some y.block):=by
 obtain ⟨a,c,rfl,h1,h2,h3⟩:=x
 refine ⟨a,c,rfl,?_,fun y hy hn => ?_⟩
 ·by_cases h0:l.length=0
  ·have:l = []:=List.length_eq_zero_iff.1 h0
   subst this
   cases a with
   |none=>rfl
   |some y=>unfold aA bK;simp;rfl
  ·obtain ⟨b,off,s,k,rfl,g,h4,h5⟩:=h3 (by omega)
   have h5:(k.drop off).take (l.length*1)=bY l:=h5
   have h4:off+l.length*1≤k.length:=h4
   rw [Nat.mul_one] at h4 h5
   have e:k=k.take off++(bY l++k.drop (off+l.length)):=by rw [←h5,←List.drop_drop,List.take_append_drop,List.take_append_drop]
   exact cI g e (by rw [List.length_take];omega) hb
 ·subst hy
  obtain ⟨m,hm⟩ : ∃ m,l.length=m+1:=⟨l.length-1,by omega⟩
  rw [hm]
  rfl
theorem flat_len {α:Type} {f:α→List Nat} {z:Nat} : ∀ (l:List α),(∀ a∈l,(f a).length=z)→(l.flatMap f).length=l.length*z
 | [],_=>by simp
 |a::l,h=>by
  have ih:=flat_len l (fun b hb=>h b (List.mem_cons_of_mem _ hb))
  rw [List.flatMap_cons,List.length_append,ih,h a (List.mem_cons_self ..),List.length_cons,Nat.add_mul]
  omega
theorem flat_snoc {α:Type} {f:α→List Nat} {l:List α} {i:Nat} {a:α} (h:l[i]? = some a):(l.take (i+1)).flatMap f=(l.take i).flatMap f++f a:=by
 rw [List.take_add_one,h]
 simp
def encMem (m:ei):List Nat:=cG 8 m.inc++cG 1 m.st
def eL (t:List ei):List Nat:=cG 1 t.length++t.flatMap encMem
def text (l:List Nat):List Nat:=cG 2 l.length++l
def bPing (m:aV):List Nat:=cG 8 m.seq++(cG 1 (i8 m.origin)++eL m.table)
def bReq (m:aV):List Nat:=cG 8 m.seq++(cG 1 (i8 m.target)++eL m.table)
def bSum (m:aV):List Nat:=text m.low++(text m.high++(cG 4 (i32 m.count)++m.root))
def eZ (m:aV):List Nat:=text m.low++(text m.high++(cG 1 (bit m.want)++(cG 2 m.cR.length++m.cR.flatMap cW)))
def bPiece (m:aV):List Nat:=m.obj++(text (dR m)++(cG 2 (i16 m.cY)++text m.data))
def bStored (m:aV):List Nat:=m.obj++cG 2 (i16 m.code)
theorem encMem_len (m:ei):(encMem m).length=9:=by unfold encMem;simp only [List.length_append,ay]
theorem encRec_len {r:bR} (w:r.Wf):(cW r).length=53:=by unfold cW;simp only [List.length_append,ay,w.obj.1]
theorem ck (l:List Nat):(text l).length=2+l.length:=by unfold text;simp only [List.length_append,ay]
theorem encMan_len {m:aV} (w:m.Wf):(dR m).length=39+m.pieces.length*32:=by
 unfold dR
 simp only [List.length_append,ay,w.cF.1,flat_len (f:=id) (z:=32) m.pieces (fun l hl=>(w.pieces l hl).1)]
 omega
theorem el_dig {l:List (List Nat)} {i:Nat} {p:List Nat} (hw : ∀ x∈l,D32 x) (hm:l[i]? = some p):el 32 (l.flatMap bY) i=bY p:=by
 have key : ∀ (l:List (List Nat)) (i:Nat),(∀ x∈l,D32 x)→l[i]? = some p→el 32 (l.flatMap bY) i=bY p:=by
  intro l
  induction l with
  |nil=>intro i _ h;cases h
  |cons a l ih=>
   intro i hw h
   have ha:(bY a).length=32:=bS (hw a (List.mem_cons_self ..))
   cases i with
   |zero=>
    cases h
    unfold el
    rw [Nat.zero_mul,List.drop_zero,List.flatMap_cons,←ha,List.take_left]
   |succ i=>
    have h:l[i]? = some p:=h
    have:=ih i (fun x hx=>hw x (List.mem_cons_of_mem _ hx)) h
    unfold el at this ⊢
    rw [List.flatMap_cons,show (i+1)*32=(bY a).length+i*32 by rw [Nat.add_mul,ha];omega,List.drop_length_add_append]
    exact this
 exact key l i hw hm
theorem is127:bF Tryz.prog 127 Tryz.f127:=⟨by kernel_rfl,by kernel_rfl,by kernel_rfl,by kernel_rfl⟩
theorem results127:Tryz.f127.results.toList = []:=by kernel_rfl
def tbInv (h0:ai) (N w lim:Nat) (L:List Nat) (v:Value) (t:List ei) (k:Nat) (y:Nat→Value) (g:ai):Prop:=
 ∃ i,i+k=t.length∧y 0=ptr w 0∧y 11=v∧y 12=aH t.length∧y 13=aH i∧WS w h0 g∧IsW g N w lim (L++(t.take i).flatMap encMem)
def tbFin (h0:ai) (N w lim:Nat) (L:List Nat) (t:List ei) (ex:Ex) (_:Nat→Value) (g:ai):Prop:=
 ex = .exit 0∧WS w h0 g∧IsW g N w lim (L++t.flatMap encMem)
theorem tbRound {h0:ai} {N w lim:Nat} {L:List Nat} {v:Value} {t:List ei} (x:cO h0 memK v t.length (t.flatMap dv)) (F:FrV h0 w v) (hw : ∀ x∈t,x.Wf) (hl:t.length≤255) (hfit:L.length+t.length*9≤lim) :
  ∀ k y g,tbInv h0 N w lim L v t k y g→dC 26 (tbInv h0 N w lim L v t) (tbFin h0 N w lim L t) k (t127l127_110 CW y g):=by
 rintro k y g ⟨i,hik,y0,y11,y12,y13,K,W⟩
 unfold t127l127_110
 by_cases hi:i<t.length
 ·obtain ⟨b,q,kb,_,a1,_,_,_,a2,_⟩:=(x.ws F K).at hi
  obtain ⟨m,hm⟩ : ∃ m,t[i]? = some m:=⟨t[i],List.getElem?_eq_getElem hi⟩
  have wm:=hw m (List.mem_of_getElem? hm)
  have a1:bW 2 v (aH i)=some (ptr b (q+i*2)):=a1
  have a2:cq 2 (ptr b (q+i*2)) g=some (.agg (el 2 (t.flatMap dv) i).toArray,g):=a2
  rw [el_flat157 hw hm] at a2
  have hlen:((t.take i).flatMap encMem).length=i*9:=by
   rw [flat_len (z:=9) _ (fun a _=>encMem_len a),List.length_take,Nat.min_eq_left (by omega)]
  have hi9:i*9+9≤t.length*9:=mul_le hi
  obtain ⟨g1,z1,o1,q1,n1⟩:=fresh [(.int .u64 0),(.int .u8 0)] g
  have p1:g1.n0≤g.next:=by rw [o1.n0];exact g.aQ
  obtain ⟨g2,t2,k2,q2,_,n2⟩:=b0 (n:=2) (k':=dv m) q1 p1 rfl rfl rfl
  have o2:Old g g2:=Old.fJ o1 k2 (Nat.le_refl _)
  have W2:=W.bG o2
  have f2:Fr g2 w g.next:=W.fr o2 (Nat.le_refl _) (by omega)
  have l0:aR (ptr g.next 0) g2=some (.int .u64 (m.inc:Int),g2):=aW q2 rfl
  obtain ⟨g3,e3,W3,k3⟩:=r126 W2 (v:=m.inc) (by rw [List.length_append,hlen];omega) wm.inc
  have l1:aR (ptr g.next 1) g3=some (.int .u8 (m.st:Int),g3):=aW ((k3.get _ f2).trans q2) rfl
  obtain ⟨g4,e4,W4,k4⟩:=r50 W3 (v:=m.st) (by rw [List.length_append,List.length_append,hlen,ay];omega) wm.st
  simp -implicitDefEqProofs only [y13, y12, eu, decide_eq_true hi, y11, a1, a2, z1, t2, y0, l0, e3, l1, e4, add31 (show i+1≤9223372036854775807 by omega), ah, ao, ar, Nat.zero_add]
  refine dC.next (k-1) (by omega) ⟨i+1,by omega,y0,y11,y12,rfl,((K.trans (WS.fq W.lt o2)).trans k3).trans k4,?_⟩
  rw [flat_snoc hm]
  show IsW g4 N w lim (L++((t.take i).flatMap encMem++(cG 8 m.inc++cG 1 m.st)))
  simpa only [List.append_assoc] using W4
 ·simp -implicitDefEqProofs only [y13,y12,eu,decide_eq_false hi,ah,ao]
  refine dC.out 0 ⟨rfl,K,?_⟩
  rw [List.take_of_length_le (by omega)] at W
  exact W
theorem r127 {h:ai} {N w lim:Nat} {l:List Nat} {v:Value} {t:List ei} (W:IsW h N w lim l) (x:cO h memK v t.length (t.flatMap dv)) (F:FrV h w v) (hw : ∀ x∈t,x.Wf) (hl:t.length≤255) (hfit:l.length+(1+t.length*9)≤lim) :
  ∃ h',CW 127 [ptr w 0,v] h=some (.tuple #[],h')∧IsW h' N w lim (l++eL t)∧WS w h h':=by
 have hw8:IntKind.wrap .u8 ((t.length:Nat):Int)=(t.length:Int):=wrap_u8 (by omega) (by omega)
 obtain ⟨h1,e1,W1,k1⟩:=r50 W (v:=t.length) (by omega) (by omega)
 have key : ∃ h',t127 CW (ptr w 0) v h=some (.tuple #[],h')∧IsW h' N w lim (l++eL t)∧WS w h h':=by
  unfold t127
  simp -implicitDefEqProofs only [ah,x.len,ao,aH,bg,hw8,e1]
  refine cC (Q:=fun o:Out => ∃ h',o=some (Value.tuple #[],h')∧IsW h' N w lim (l++eL t)∧WS w h h') (cx (t127l127_110_eq CW) (tbRound (L:=l++cG 1 t.length) (N:=N) (lim:=lim) (x.ws F k1) (F.ws k1) hw hl (by rw [List.length_append,ay];omega)) t.length (by have:rounds=18446744073709551616:=rfl;omega)
   ⟨0,Nat.zero_add _,rfl,rfl,rfl,rfl,WS.refl _ _,by simpa using W1⟩) ?_
  rintro ex z g ⟨rfl,K,W'⟩
  rw [bJ]
  unfold b127_2
  rw [if_pos rfl,results127]
  refine ⟨g,rfl,?_,k1.trans K⟩
  unfold eL
  simpa only [List.append_assoc] using W'
 obtain ⟨h',e,W',K⟩:=key
 exact ⟨h',az is127 W.g4 rfl ((t127_eq _ _ _ _).trans e),W',K⟩
theorem is132:bF Tryz.prog 132 Tryz.f132:=⟨by kernel_rfl,by kernel_rfl,by kernel_rfl,by kernel_rfl⟩
theorem b132_exit (C:av) (e:Env) (h:ai):b132_14 C 0 e h=k132_12 C e h:=rfl
def mnInv (h0:ai) (N w lim:Nat) (L:List Nat) (v:Value) (t:List (List Nat)) (k:Nat) (y:Nat→Value) (g:ai):Prop:=
 ∃ i,i+k=t.length∧y 5=ptr w 0∧y 45=v∧y 46=aH t.length∧y 47=aH i∧WS w h0 g∧IsW g N w lim (L++(t.take i).flatMap id)
def mnFin (h0:ai) (N w lim:Nat) (L:List Nat) (t:List (List Nat)) (ex:Ex) (y:Nat→Value) (g:ai):Prop:=
 ex = .exit 0∧y 5=ptr w 0∧WS w h0 g∧IsW g N w lim (L++t.flatMap id)
theorem mnRound {h0:ai} {N w lim:Nat} {L:List Nat} {v:Value} {t:List (List Nat)} (x:cO h0 ew v t.length (t.flatMap bY)) (F:FrV h0 w v) (hw : ∀ x∈t,D32 x) (hl:t.length≤255) (hfit:L.length+t.length*32≤lim) :
  ∀ k y g,mnInv h0 N w lim L v t k y g→dC 59 (mnInv h0 N w lim L v t) (mnFin h0 N w lim L t) k (dq CW y g):=by
 rintro k y g ⟨i,hik,y5,y45,y46,y47,K,W⟩
 unfold dq
 by_cases hi:i<t.length
 ·obtain ⟨b,q,kb,_,a1,_,_,_,a2,_⟩:=(x.ws F K).at hi
  obtain ⟨m,hm⟩ : ∃ m,t[i]? = some m:=⟨t[i],List.getElem?_eq_getElem hi⟩
  have wm:=hw m (List.mem_of_getElem? hm)
  have a1:bW 32 v (aH i)=some (ptr b (q+i*32)):=a1
  have a2:cq 32 (ptr b (q+i*32)) g=some (.agg (el 32 (t.flatMap bY) i).toArray,g):=a2
  rw [el_dig hw hm] at a2
  have hlen:((t.take i).flatMap id).length=i*32:=by
   rw [flat_len (f:=id) (z:=32) _ (fun a ha=>(hw a (List.mem_of_mem_take ha)).1),List.length_take,Nat.min_eq_left (by omega)]
  have hi9:i*32+32≤t.length*32:=mul_le hi
  obtain ⟨g1,z1,o1,q1,n1⟩:=fresh (List.replicate 32 (.int .u8 0)) g
  have p1:g1.n0≤g.next:=by rw [o1.n0];exact g.aQ
  obtain ⟨g2,t2,k2,q2,_,n2⟩:=b0 (n:=32) (k':=bY m) q1 p1 rfl (bS wm) (dY m).2
  have o2:Old g g2:=Old.fJ o1 k2 (Nat.le_refl _)
  have W2:=W.bG o2
  have f2:Fr g2 w g.next:=W.fr o2 (Nat.le_refl _) (by omega)
  have sb:aA (some ⟨g.next,0,none⟩) m.length g2=some m:=cI (A := []) (C := []) q2 (by simp) rfl wm.2
  obtain ⟨g3,e3,W3,k3⟩:=r52 W2 (c:=32) sb (fun y hy _=>by cases hy;exact f2) (by rw [List.length_append,hlen,wm.1];omega)
  rw [wm.1] at e3
  simp -implicitDefEqProofs only [y47, y46, eu, decide_eq_true hi, y45, a1, a2, z1, t2, y5, arr32, e3, add31 (show i+1≤9223372036854775807 by omega), ah, ao]
  refine dC.next (k-1) (by omega) ⟨i+1,by omega,y5,y45,y46,rfl,(K.trans (WS.fq W.lt o2)).trans k3,?_⟩
  rw [flat_snoc hm,←List.append_assoc]
  exact W3
 ·simp -implicitDefEqProofs only [y47,y46,eu,decide_eq_false hi,ah,ao]
  refine dC.out 0 ⟨rfl,y5,K,?_⟩
  rw [List.take_of_length_le (by omega)] at W
  exact W
theorem man_fine {m:aV} (v:fe m=false):1≤m.gk∧m.gk≤m.gn∧m.gn≤m.gt∧m.gt≤255∧0≤m.gs∧m.gs≤8192∧(m.pieces.length:Int)=m.gt:=by
 unfold fe sizesB at v
 simp only [Bool.or_eq_false_iff,Bool.not_eq_false',Bool.and_eq_true,decide_eq_true_eq,decide_eq_false_iff_not,bne_eq_false_iff_eq] at v
 omega
set_option maxRecDepth 100000 in
theorem r132 {h:ai} {s:dy} {m:aV} (hG:4≤h.n0) (x:Has h s m) (v:fe m=false) : ∃ a c h',CW 132 [gv m s] h=some (.tuple #[.slice a (dR m).length c,.int .i64 0],h')∧aA a (dR m).length h'=some (dR m)∧Old h h'∧(∀ y,a=some y→h.next≤y.block):=by
 have mo:=man_ok x.sl (aV.ok x.wf)
 obtain ⟨v1,v2,v3,v4,v5,v6,v7⟩:=man_fine v
 obtain ⟨h1,b1,o1,g1,n1⟩ : ∃ h1,box (gv m s) h=some (ptr h.next 0,h1)∧Old h h1∧h1.get h.next=some (m.d.eE s)∧h1.next=h.next+1:=
  ⟨_,dN h (m.d.eE s) mo.2.1,Kept.alloc _ _ _,by rw [ai.aO,if_pos rfl],rfl⟩
 have hG1:4≤h1.n0:=by rw [o1.n0];exact hG
 have l37:cq 37 (ptr h.next 0) h1=some (gv m s,h1):=ez g1 mo.2.2 mo.1
 obtain ⟨h2,e2,o2⟩:=r131 hG1 (x.bG o1)
 rw [v] at e2
 have O2:=o1.trans o2
 have m2:=o2.next
 have hmul:bin Tryz.prog .mul 3 (.int .i64 32) (.int .i64 m.gt)=some (.int .i64 (32*m.gt)):=by
  rw [bin_mul,wrap_i64 (by omega) (by omega)]
 have hadd:bin Tryz.prog .add 3 (.int .i64 39) (.int .i64 (32*m.gt))=some (aH (39+m.pieces.length*32)):=by
  rw [bin_add,wrap_i64 (by omega) (by omega)]
  exact congrArg (fun z=>some (Value.int .i64 z)) (by omega)
 obtain ⟨h3,e3,W3,o3,F3⟩:=r47 h2 (by rw [O2.n0];exact hG) (lim:=39+m.pieces.length*32) (by omega)
 have fb:Fr h3 h2.next h.next:=F3 _ (by omega)
 have g2:=Old.get o2 g1
 have gb:h3.get h.next=some (m.d.eE s):=Old.get o3 g2
 have K3:WS h2.next h3 h3:=WS.refl _ _
 have l2:aR (ptr h.next 2) h2=some (.int .i64 m.gt,h2):=aW g2 rfl
 obtain ⟨h4,e4,W4,k4⟩:=r49 W3 (v:=19713) (by simp only [List.length_nil];omega) (by decide)
 have K4:=K3.trans k4
 have A4:=(man_ld x.sl (aV.ok x.wf) ((K4.get _ fb).trans gb))
 obtain ⟨h5,e5,W5,k5⟩:=r50 W4 (v:=i8 m.gk) (by simp only [List.length_append, ay, List.length_nil];omega) (fC _)
 have K5:=K4.trans k5
 have A5:=(man_ld x.sl (aV.ok x.wf) ((K5.get _ fb).trans gb))
 obtain ⟨h6,e6,W6,k6⟩:=r50 W5 (v:=i8 m.gn) (by simp only [List.length_append, ay, List.length_nil];omega) (fC _)
 have K6:=K5.trans k6
 have A6:=(man_ld x.sl (aV.ok x.wf) ((K6.get _ fb).trans gb))
 obtain ⟨h7,e7,W7,k7⟩:=r50 W6 (v:=i8 m.gt) (by simp only [List.length_append, ay, List.length_nil];omega) (fC _)
 have K7:=K6.trans k7
 have A7:=(man_ld x.sl (aV.ok x.wf) ((K7.get _ fb).trans gb))
 obtain ⟨h8,e8,W8,k8⟩:=r49 W7 (v:=i16 m.gs) (by simp only [List.length_append, ay, List.length_nil];omega) (i16_lt _)
 have K8:=K7.trans k8
 have A8:=(man_ld x.sl (aV.ok x.wf) ((K8.get _ fb).trans gb))
 obtain ⟨h9,e9,W9,k9⟩:=r52 W8 (n:=m.cF.length) (c:=32) (cI (off:=4) (s:=none) ((K8.get _ fb).trans gb) (A := [.int .i64 m.gk,.int .i64 m.gn,.int .i64 m.gt,.int .i64 m.gs]) rfl rfl x.wf.cF.2) (fun y hy _=>by cases hy;exact K8.fr _ fb) (by simp only [List.length_append, ay, List.length_nil, x.wf.cF.1];omega)
 have K9:=K8.trans k9
 have A9:=(man_ld x.sl (aV.ok x.wf) ((K9.get _ fb).trans gb))
 rw [x.wf.cF.1] at e9
 have g9:h9.get h.next=some (m.d.eE s):=(K9.get _ fb).trans gb
 have j0:aR (ptr h.next 0) h4=some (.int .i64 m.gk,h4):=A4.l0
 have j1:aR (ptr h.next 1) h5=some (.int .i64 m.gn,h5):=A5.l1
 have j2:aR (ptr h.next 2) h6=some (.int .i64 m.gt,h6):=A6.l2
 have j3:aR (ptr h.next 3) h7=some (.int .i64 m.gs,h7):=A7.l3
 have x3:=x.sl.e.bG (O2.trans o3)
 have Fe:FrV h3 h2.next s.e:=fun b hb=>F3 b (Nat.lt_of_lt_of_le (x.sl.e.lt hb) (Nat.le_trans O2.next (Nat.le_refl _)))
 have hL:(((((([]++cG 2 19713)++cG 1 (i8 m.gk))++cG 1 (i8 m.gn))++cG 1 (i8 m.gt))++cG 2 (i16 m.gs))++m.cF).length=39:=by simp only [List.length_append, ay, List.length_nil, x.wf.cF.1]
 have e4:CW 49 [ptr h2.next 0,.int .u16 19713] h3=some (.tuple #[],h4):=e4
 have z35:bin Tryz.prog .neq 35 (.int .i64 0) (.int .i64 0)=some (.bool false):=by rw [aD];rfl
 have key : ∃ a c h',t132 CW (gv m s) h=some (.tuple #[.slice a (dR m).length c,.int .i64 0],h')∧aA a (dR m).length h'=some (dR m)∧Old h h'∧(∀ y,a=some y→h.next≤y.block):=by
  unfold t132
  simp -implicitDefEqProofs only [b1, l37, e2, if_false, Bool.false_eq_true, z35, l2, hmul, hadd, e3, e4, j0, wrap_i8, wrap_i16, bg, e5, j1, e6, j2, e7, j3, e8, arr32, e9, A9.eY, x.len.2.2.2.2.1, ah, ao, ar, Nat.zero_add]
  refine cC (Q:=fun o:Out => ∃ a c h',o=some (Value.tuple #[.slice a (dR m).length c,.int .i64 0],h')∧aA a (dR m).length h'=some (dR m)∧Old h h'∧(∀ y,a=some y→h.next≤y.block)) (cx (t132l132_111111111010_eq CW) (mnRound (N:=h2.next) (w:=h2.next) (lim:=39+m.pieces.length*32) (x3.ws Fe K9) (Fe.ws K9) x.wf.pieces (by omega) (by rw [hL];exact Nat.le_refl _)) m.pieces.length (by have:rounds=18446744073709551616:=rfl;omega)
   ⟨0,Nat.zero_add _,rfl,rfl,rfl,rfl,WS.refl _ _,by simpa using W9⟩) ?_
  rintro ex z g ⟨rfl,z5,K,W'⟩
  rw [bJ,b132_exit,t132k132_12_eq]
  unfold t132k132_12
  have hE:(((((([]++cG 2 19713)++cG 1 (i8 m.gk))++cG 1 (i8 m.gn))++cG 1 (i8 m.gt))++cG 2 (i16 m.gs))++m.cF)++m.pieces.flatMap id=dR m:=by
   unfold dR
   simp only [List.append_assoc,List.nil_append]
  rw [hE] at W'
  obtain ⟨a,c,h',e,sb,_,o,f⟩:=r48 W' (by rw [encMan_len x.wf];omega)
  have KK:=K9.trans K
  refine ⟨a,c,h',by simp -implicitDefEqProofs only [z5,e,dQ,dX,ah,ao],sb,?_,fun y hy => ?_⟩
  ·refine ⟨by rw [o.n0,KK.n0,o3.n0,O2.n0],Nat.le_trans O2.next (Nat.le_trans o3.next (Nat.le_trans KK.next o.next)),fun d hd _ => ?_⟩
   have hd2:d<h2.next:=Nat.lt_of_lt_of_le hd O2.next
   have f3:=F3 d hd2
   exact (Kept.get o d (Nat.lt_of_lt_of_le f3.1 KK.next) (fun h=>h)).trans ((KK.get d f3).trans ((Kept.get o3 d hd2 (fun h=>h)).trans (Kept.get O2 d hd (fun h=>h))))
  ·have:=f y hy
   have:=Nat.le_trans O2.next (Nat.le_trans o3.next KK.next)
   omega
 obtain ⟨a,c,h',e,r1,r2,r3⟩:=key
 exact ⟨a,c,h',az is132 hG rfl ((t132_eq _ _ _).trans e),r1,r2,r3⟩
end Go.Proofs.YtjghlcdidopcpaaGreatDoor

namespace Go.Proofs.YtjghlcdidopcpaaGreatDoor
open Go Go.Abs
attribute [local congr] bp
theorem br (t:List ei):(eL t).length=1+t.length*9:=by
 unfold eL
 rw [List.length_append,ay,flat_len (z:=9) _ (fun a _=>encMem_len a)]
theorem eN {t:List bR} (hw : ∀ x∈t,x.Wf):(t.flatMap cW).length=t.length*53:=flat_len (z:=53) _ (fun a ha=>encRec_len (hw a ha))
theorem is97:bF Tryz.prog 97 Tryz.f97:=⟨by kernel_rfl,by kernel_rfl,by kernel_rfl,by kernel_rfl⟩
set_option maxRecDepth 100000 in
theorem r97 {h:ai} {N w lim:Nat} {l:List Nat} {s:dy} {m:aV} (W:IsW h N w lim l) (x:Has h s m) (F:FrS h w s) (ht:m.table.length≤255) (hfit:l.length+(bPing m).length≤lim) : ∃ h',CW 97 [ptr w 0,mv m s] h=some (.tuple #[],h')∧IsW h' N w lim (l++bPing m)∧WS w h h':=by
 obtain ⟨h1,b1,o1,x1,A1,n1,-⟩:=fk x
 have W1:=W.bG o1
 have k1:=WS.fq W.lt o1
 have K1:=k1
 have fb:Fr h1 w h.next:=W.fr o1 (Nat.le_refl _) (by omega)
 have gb:=A1.g
 have F1:=F.ws K1
 have J1:WS w h1 h1:=WS.refl _ _
 obtain ⟨h2,e2,W2,k2⟩:=r126 W1 (v:=m.seq) (by unfold bPing at hfit;simp only [List.length_append, ay, br] at hfit ⊢;omega) x.wf.seq
 have J2:=J1.trans k2
 have A2:=c9 x ((J2.get _ fb).trans gb)
 obtain ⟨h3,e3,W3,k3⟩:=r50 W2 (v:=i8 m.origin) (by unfold bPing at hfit;simp only [List.length_append, ay, br] at hfit ⊢;omega) (fC _)
 have J3:=J2.trans k3
 have A3:=c9 x ((J3.get _ fb).trans gb)
 obtain ⟨h4,e4,W4,k4⟩:=r127 W3 (x1.sl.a.ws F1.a J3) (F1.a.ws J3) x.wf.table ht (by unfold bPing at hfit;simp only [List.length_append, ay, br] at hfit ⊢;omega)
 have J4:=J3.trans k4
 have A4:=c9 x ((J4.get _ fb).trans gb)
 refine ⟨h4,az is97 W.g4 rfl ((t97_eq _ _ _ _).trans ?_),?_,K1.trans J4⟩
 ·unfold t97
  simp -implicitDefEqProofs only [b1, A1.l3, A2.l4, A3.l6, bg, wrap_i8, e2, e3, e4, ah, ao, ar, Nat.zero_add]
 ·unfold bPing
  simpa only [List.append_assoc] using W4
theorem is100:bF Tryz.prog 100 Tryz.f100:=⟨by kernel_rfl,by kernel_rfl,by kernel_rfl,by kernel_rfl⟩
set_option maxRecDepth 100000 in
theorem r100 {h:ai} {N w lim:Nat} {l:List Nat} {s:dy} {m:aV} (W:IsW h N w lim l) (x:Has h s m) (F:FrS h w s) (ht:m.table.length≤255) (hfit:l.length+(bReq m).length≤lim) : ∃ h',CW 100 [ptr w 0,mv m s] h=some (.tuple #[],h')∧IsW h' N w lim (l++bReq m)∧WS w h h':=by
 obtain ⟨h1,b1,o1,x1,A1,n1,-⟩:=fk x
 have W1:=W.bG o1
 have k1:=WS.fq W.lt o1
 have K1:=k1
 have fb:Fr h1 w h.next:=W.fr o1 (Nat.le_refl _) (by omega)
 have gb:=A1.g
 have F1:=F.ws K1
 have J1:WS w h1 h1:=WS.refl _ _
 obtain ⟨h2,e2,W2,k2⟩:=r126 W1 (v:=m.seq) (by unfold bReq at hfit;simp only [List.length_append, ay, br] at hfit ⊢;omega) x.wf.seq
 have J2:=J1.trans k2
 have A2:=c9 x ((J2.get _ fb).trans gb)
 obtain ⟨h3,e3,W3,k3⟩:=r50 W2 (v:=i8 m.target) (by unfold bReq at hfit;simp only [List.length_append, ay, br] at hfit ⊢;omega) (fC _)
 have J3:=J2.trans k3
 have A3:=c9 x ((J3.get _ fb).trans gb)
 obtain ⟨h4,e4,W4,k4⟩:=r127 W3 (x1.sl.a.ws F1.a J3) (F1.a.ws J3) x.wf.table ht (by unfold bReq at hfit;simp only [List.length_append, ay, br] at hfit ⊢;omega)
 have J4:=J3.trans k4
 have A4:=c9 x ((J4.get _ fb).trans gb)
 refine ⟨h4,az is100 W.g4 rfl ((t100_eq _ _ _ _).trans ?_),?_,K1.trans J4⟩
 ·unfold t100
  simp -implicitDefEqProofs only [b1, A1.l3, A2.l5, A3.l6, bg, wrap_i8, e2, e3, e4, ah, ao, ar, Nat.zero_add]
 ·unfold bReq
  simpa only [List.append_assoc] using W4
def sObjB (m:aV):List Nat:=m.obj
theorem is104:bF Tryz.prog 104 Tryz.f104:=⟨by kernel_rfl,by kernel_rfl,by kernel_rfl,by kernel_rfl⟩
set_option maxRecDepth 100000 in
theorem r104 {h:ai} {N w lim:Nat} {l:List Nat} {s:dy} {m:aV} (W:IsW h N w lim l) (x:Has h s m) (F:FrS h w s) (hfit:l.length+(sObjB m).length≤lim) : ∃ h',CW 104 [ptr w 0,mv m s] h=some (.tuple #[],h')∧IsW h' N w lim (l++sObjB m)∧WS w h h':=by
 obtain ⟨h1,b1,o1,x1,A1,n1,-⟩:=fk x
 have W1:=W.bG o1
 have k1:=WS.fq W.lt o1
 have K1:=k1
 have fb:Fr h1 w h.next:=W.fr o1 (Nat.le_refl _) (by omega)
 have gb:=A1.g
 have F1:=F.ws K1
 have J1:WS w h1 h1:=WS.refl _ _
 obtain ⟨h2,e2,W2,k2⟩:=r52 W1 (n:=m.obj.length) (c:=32) (cI (off:=44) (s:=none) ((J1.get _ fb).trans gb) (A:=m.d.front s++(bY m.root ++ [s.d,.bool m.want])) (C:=m.d.eE s ++ [.int .i64 m.cY,s.f,.int .i64 m.code]) (by unfold bI.cells;simp only [List.append_assoc];rfl) (by rw [List.length_append,List.length_append,bS x.wf.root];rfl) x.wf.obj.2) (fun y hy _=>by cases hy;exact J1.fr _ fb) (by unfold sObjB at hfit;omega)
 have J2:=J1.trans k2
 have A2:=c9 x ((J2.get _ fb).trans gb)
 have e2:CW 52 [ptr w 0,.slice (some ⟨h.next,44,none⟩) 32 32] h1=some (.tuple #[],h2):=by
  rw [x.wf.obj.1] at e2
  exact e2
 refine ⟨h2,az is104 W.g4 rfl ((t104_eq _ _ _ _).trans ?_),?_,K1.trans J2⟩
 ·unfold t104
  simp -implicitDefEqProofs only [b1, arr32, e2, ah, ao, ar, Nat.zero_add]
 ·unfold sObjB
  simpa only [List.append_assoc] using W2
theorem is120:bF Tryz.prog 120 Tryz.f120:=⟨by kernel_rfl,by kernel_rfl,by kernel_rfl,by kernel_rfl⟩
set_option maxRecDepth 100000 in
theorem r120 {h:ai} {N w lim:Nat} {l:List Nat} {s:dy} {m:aV} (W:IsW h N w lim l) (x:Has h s m) (F:FrS h w s) (hfit:l.length+(bStored m).length≤lim) : ∃ h',CW 120 [ptr w 0,mv m s] h=some (.tuple #[],h')∧IsW h' N w lim (l++bStored m)∧WS w h h':=by
 obtain ⟨h1,b1,o1,x1,A1,n1,-⟩:=fk x
 have W1:=W.bG o1
 have k1:=WS.fq W.lt o1
 have K1:=k1
 have fb:Fr h1 w h.next:=W.fr o1 (Nat.le_refl _) (by omega)
 have gb:=A1.g
 have F1:=F.ws K1
 have J1:WS w h1 h1:=WS.refl _ _
 obtain ⟨h2,e2,W2,k2⟩:=r52 W1 (n:=m.obj.length) (c:=32) (cI (off:=44) (s:=none) ((J1.get _ fb).trans gb) (A:=m.d.front s++(bY m.root ++ [s.d,.bool m.want])) (C:=m.d.eE s ++ [.int .i64 m.cY,s.f,.int .i64 m.code]) (by unfold bI.cells;simp only [List.append_assoc];rfl) (by rw [List.length_append,List.length_append,bS x.wf.root];rfl) x.wf.obj.2) (fun y hy _=>by cases hy;exact J1.fr _ fb) (by unfold bStored at hfit;simp only [List.length_append, ay] at hfit ⊢;omega)
 have J2:=J1.trans k2
 have A2:=c9 x ((J2.get _ fb).trans gb)
 obtain ⟨h3,e3,W3,k3⟩:=r49 W2 (v:=i16 m.code) (by unfold bStored at hfit;simp only [List.length_append, ay] at hfit ⊢;omega) (i16_lt _)
 have J3:=J2.trans k3
 have A3:=c9 x ((J3.get _ fb).trans gb)
 have e2:CW 52 [ptr w 0,.slice (some ⟨h.next,44,none⟩) 32 32] h1=some (.tuple #[],h2):=by
  rw [x.wf.obj.1] at e2
  exact e2
 refine ⟨h3,az is120 W.g4 rfl ((t120_eq _ _ _ _).trans ?_),?_,K1.trans J3⟩
 ·unfold t120
  simp -implicitDefEqProofs only [b1, A2.ba, bg, wrap_i16, arr32, e2, e3, ah, ao, ar, Nat.zero_add]
 ·unfold bStored
  simpa only [List.append_assoc] using W3
theorem is113:bF Tryz.prog 113 Tryz.f113:=⟨by kernel_rfl,by kernel_rfl,by kernel_rfl,by kernel_rfl⟩
set_option maxRecDepth 100000 in
theorem r113 {h:ai} {N w lim:Nat} {l:List Nat} {s:dy} {m:aV} (W:IsW h N w lim l) (x:Has h s m) (F:FrS h w s) (hlo:m.low.length≤34) (hhi:m.high.length≤34) (hfit:l.length+(bSum m).length≤lim) : ∃ h',CW 113 [ptr w 0,mv m s] h=some (.tuple #[],h')∧IsW h' N w lim (l++bSum m)∧WS w h h':=by
 obtain ⟨h1,b1,o1,x1,A1,n1,-⟩:=fk x
 have W1:=W.bG o1
 have k1:=WS.fq W.lt o1
 have K1:=k1
 have fb:Fr h1 w h.next:=W.fr o1 (Nat.le_refl _) (by omega)
 have gb:=A1.g
 have F1:=F.ws K1
 have J1:WS w h1 h1:=WS.refl _ _
 obtain ⟨ab,cb,vb,sb,tb⟩:=x.sl.b.bytes x.wf.low
 obtain ⟨ac,cc,vc,sc,tc⟩:=x.sl.c.bytes x.wf.high
 obtain ⟨h2,e2,W2,k2⟩:=r133 W1 (c:=cb) ((k1.trans J1).bytes sb (fun y hy hn=>F.b _ (tb y hy hn))) (fun y hy hn=>(k1.trans J1).fr _ (F.b _ (tb y hy hn))) (by unfold bSum at hfit;simp only [List.length_append, ay, ck] at hfit ⊢;omega) (by omega)
 have J2:=J1.trans k2
 have A2:=c9 x ((J2.get _ fb).trans gb)
 obtain ⟨h3,e3,W3,k3⟩:=r133 W2 (c:=cc) ((k1.trans J2).bytes sc (fun y hy hn=>F.c _ (tc y hy hn))) (fun y hy hn=>(k1.trans J2).fr _ (F.c _ (tc y hy hn))) (by unfold bSum at hfit;simp only [List.length_append, ay, ck] at hfit ⊢;omega) (by omega)
 have J3:=J2.trans k3
 have A3:=c9 x ((J3.get _ fb).trans gb)
 obtain ⟨h4,e4,W4,k4⟩:=r51 W3 (v:=i32 m.count) (by unfold bSum at hfit;simp only [List.length_append, ay, ck] at hfit ⊢;omega) (i32_lt _)
 have J4:=J3.trans k4
 have A4:=c9 x ((J4.get _ fb).trans gb)
 obtain ⟨h5,e5,W5,k5⟩:=r52 W4 (n:=m.root.length) (c:=32) (cI (off:=10) (s:=none) ((J4.get _ fb).trans gb) (A:=m.d.front s) rfl rfl x.wf.root.2) (fun y hy _=>by cases hy;exact J4.fr _ fb) (by unfold bSum at hfit;simp only [List.length_append, ay, ck] at hfit ⊢;omega)
 have J5:=J4.trans k5
 have A5:=c9 x ((J5.get _ fb).trans gb)
 rw [←vb] at e2
 rw [←vc] at e3
 have e5:CW 52 [ptr w 0,.slice (some ⟨h.next,10,none⟩) 32 32] h4=some (.tuple #[],h5):=by
  rw [x.wf.root.1] at e5
  exact e5
 refine ⟨h5,az is113 W.g4 rfl ((t113_eq _ _ _ _).trans ?_),?_,K1.trans J5⟩
 ·unfold t113
  simp -implicitDefEqProofs only [b1, A1.l7, A2.l8, A3.l9, bg, wrap_i32, arr32, e2, e3, e4, e5, ah, ao, ar, Nat.zero_add]
 ·unfold bSum text
  simpa only [List.append_assoc] using W5
theorem is108:bF Tryz.prog 108 Tryz.f108:=⟨by kernel_rfl,by kernel_rfl,by kernel_rfl,by kernel_rfl⟩
set_option maxRecDepth 100000 in
theorem r108 {h:ai} {N w lim:Nat} {l:List Nat} {s:dy} {m:aV} (W:IsW h N w lim l) (x:Has h s m) (F:FrS h w s) (hm:fe m=false) (hd:m.data.length≤8192) (hfit:l.length+(bPiece m).length≤lim) : ∃ h',CW 108 [ptr w 0,mv m s] h=some (.tuple #[],h')∧IsW h' N w lim (l++bPiece m)∧WS w h h':=by
 obtain ⟨h1,b1,o1,x1,A1,n1,-⟩:=fk x
 have W1:=W.bG o1
 have k1:=WS.fq W.lt o1
 have K1:=k1
 have fb:Fr h1 w h.next:=W.fr o1 (Nat.le_refl _) (by omega)
 have gb:=A1.g
 have F1:=F.ws K1
 have J1:WS w h1 h1:=WS.refl _ _
 have hG1:4≤h1.n0:=W1.g4
 obtain ⟨am,cm,h2,em,sm,om,fm⟩:=r132 hG1 x1 hm
 have W2:=W1.bG om
 have J2:WS w h1 h2:=WS.fq W1.lt om
 have A2:=c9 x ((J2.get _ fb).trans gb)
 have Fm : ∀ y,am=some y→0<(dR m).length→Fr h2 w y.block:=fun y hy hn=>W1.fr om (fm y hy) (by
  obtain ⟨b,off,s',k,e,g,_⟩:=(aC sm).2.2 hn
  rw [hy] at e
  cases e
  exact h2.bj g)
 obtain ⟨af,cf,vf,sf_,tf⟩:=x.sl.f.bytes x.wf.data
 have hml:=encMan_len x.wf
 obtain ⟨h3,e3,W3,k3⟩:=r52 W2 (n:=m.obj.length) (c:=32) (cI (off:=44) (s:=none) ((J2.get _ fb).trans gb) (A:=m.d.front s++(bY m.root ++ [s.d,.bool m.want])) (C:=m.d.eE s ++ [.int .i64 m.cY,s.f,.int .i64 m.code]) (by unfold bI.cells;simp only [List.append_assoc];rfl) (by rw [List.length_append,List.length_append,bS x.wf.root];rfl) x.wf.obj.2) (fun y hy _=>by cases hy;exact J2.fr _ fb) (by unfold bPiece at hfit;simp only [List.length_append, ay, ck, hml] at hfit ⊢;omega)
 have J3:=J2.trans k3
 have A3:=c9 x ((J3.get _ fb).trans gb)
 obtain ⟨h4,e4,W4,k4⟩:=r133 W3 (c:=cm) (k3.bytes sm Fm) (fun y hy hn=>k3.fr _ (Fm y hy hn)) (by unfold bPiece at hfit;simp only [List.length_append, ay, ck, hml] at hfit ⊢;omega) (by rw [hml];have:=man_fine hm;omega)
 have J4:=J3.trans k4
 have A4:=c9 x ((J4.get _ fb).trans gb)
 obtain ⟨h5,e5,W5,k5⟩:=r49 W4 (v:=i16 m.cY) (by unfold bPiece at hfit;simp only [List.length_append, ay, ck, hml] at hfit ⊢;omega) (i16_lt _)
 have J5:=J4.trans k5
 have A5:=c9 x ((J5.get _ fb).trans gb)
 obtain ⟨h6,e6,W6,k6⟩:=r133 W5 (c:=cf) ((k1.trans J5).bytes sf_ (fun y hy hn=>F.f _ (tf y hy hn))) (fun y hy hn=>(k1.trans J5).fr _ (F.f _ (tf y hy hn))) (by unfold bPiece at hfit;simp only [List.length_append, ay, ck, hml] at hfit ⊢;omega) (by omega)
 have J6:=J5.trans k6
 have A6:=c9 x ((J6.get _ fb).trans gb)
 rw [←vf] at e6
 have e3:CW 52 [ptr w 0,.slice (some ⟨h.next,44,none⟩) 32 32] h2=some (.tuple #[],h3):=by
  rw [x.wf.obj.1] at e3
  exact e3
 refine ⟨h6,az is108 W.g4 rfl ((t108_eq _ _ _ _).trans ?_),?_,K1.trans J6⟩
 ·unfold t108
  simp -implicitDefEqProofs only [b1, A1.bU, em, dQ, dX, A4.aX, A5.aU, bg, wrap_i16, arr32, e3, e4, e5, e6, ah, ao, ar, Nat.zero_add, Nat.reduceAdd]
 ·unfold bPiece text
  simpa only [List.append_assoc] using W6
theorem is116:bF Tryz.prog 116 Tryz.f116:=⟨by kernel_rfl,by kernel_rfl,by kernel_rfl,by kernel_rfl⟩
theorem results116:Tryz.f116.results.toList = []:=by kernel_rfl
def itInv (h0:ai) (N w lim:Nat) (L:List Nat) (v:Value) (t:List bR) (k:Nat) (y:Nat→Value) (g:ai):Prop:=
 ∃ i,i+k=t.length∧y 0=ptr w 0∧y 29=v∧y 30=aH t.length∧y 31=aH i∧WS w h0 g∧IsW g N w lim (L++(t.take i).flatMap cW)
def itFin (h0:ai) (N w lim:Nat) (L:List Nat) (t:List bR) (ex:Ex) (_:Nat→Value) (g:ai):Prop:=
 ex = .exit 0∧WS w h0 g∧IsW g N w lim (L++t.flatMap cW)
theorem itRound {h0:ai} {N w lim:Nat} {L:List Nat} {v:Value} {t:List bR} (x:cO h0 recK v t.length (t.flatMap recC)) (F:FrV h0 w v) (hw : ∀ x∈t,x.Wf) (hv : ∀ x∈t,recB x=true) (hl:t.length≤255) (hfit:L.length+t.length*53≤lim) :
  ∀ k y g,itInv h0 N w lim L v t k y g→dC 44 (itInv h0 N w lim L v t) (itFin h0 N w lim L t) k (eU CW y g):=by
 rintro k y g ⟨i,hik,y0,y29,y30,y31,K,W⟩
 unfold eU
 by_cases hi:i<t.length
 ·obtain ⟨b,q,kb,_,a1,_,_,_,a2,_⟩:=(x.ws F K).at hi
  obtain ⟨m,hm⟩ : ∃ m,t[i]? = some m:=⟨t[i],List.getElem?_eq_getElem hi⟩
  have hmem:=List.mem_of_getElem? hm
  have wm:=hw m hmem
  have a1:bW 39 v (aH i)=some (ptr b (q+i*39)):=a1
  have a2:cq 39 (ptr b (q+i*39)) g=some (.agg (el 39 (t.flatMap recC) i).toArray,g):=a2
  rw [el_flat150 hw hm] at a2
  have hlen:((t.take i).flatMap cW).length=i*53:=by
   rw [eN (fun a ha=>hw a (List.mem_of_mem_take ha)),List.length_take,Nat.min_eq_left (by omega)]
  have hi9:i*53+53≤t.length*53:=mul_le hi
  obtain ⟨g1,z1,o1,q1,n1⟩:=fresh [(.int .u8 0),(.int .u8 0),(.int .u8 0),(.int .u8 0),(.int .u8 0),(.int .u8 0),(.int .u8 0),(.int .u8 0),(.int .u8 0),(.int .u8 0),(.int .u8 0),(.int .u8 0),(.int .u8 0),(.int .u8 0),(.int .u8 0),(.int .u8 0),(.int .u8 0),(.int .u8 0),(.int .u8 0),(.int .u8 0),(.int .u8 0),(.int .u8 0),(.int .u8 0),(.int .u8 0),(.int .u8 0),(.int .u8 0),(.int .u8 0),(.int .u8 0),(.int .u8 0),(.int .u8 0),(.int .u8 0),(.int .u8 0),(.int .u8 0),(.int .i64 0),(.int .u64 0),(.int .u64 0),(.bool false),(.int .i64 0),(.int .i64 0)] g
  have p1:g1.n0≤g.next:=by rw [o1.n0];exact g.aQ
  obtain ⟨g2,t2,k2,q2,_,n2⟩:=b0 (n:=39) (k':=recC m) q1 p1 rfl (bB wm).1 (bB wm).2.2
  have o2:Old g g2:=Old.fJ o1 k2 (Nat.le_refl _)
  have W2:=W.bG o2
  have l0:cq 39 (ptr g.next 0) g2=some (.agg (recC m).toArray,g2):=ez q2 (bB wm).1 (bB wm).2.1
  obtain ⟨a,c,g3,e3,sb,o3,f3⟩:=r139 W2.g4 wm (hv m hmem)
  have W3:=W2.bG o3
  have Fa : ∀ y,a=some y→0<53→Fr g3 w y.block:=fun y hy hn=>W2.fr o3 (f3 y hy) (by
   obtain ⟨b,off,s',k,e,g,_⟩:=(aC sb).2.2 hn
   rw [hy] at e
   cases e
   exact g3.bj g)
  obtain ⟨g4,e4,W4,k4⟩:=r52 W3 (c:=c) sb Fa (by rw [List.length_append,hlen];omega)
  simp -implicitDefEqProofs only [y31, y30, eu, decide_eq_true hi, y29, a1, a2, z1, t2, l0, e3, dQ, dX, y0, e4, add31 (show i+1≤9223372036854775807 by omega), ah, ao]
  refine dC.next (k-1) (by omega) ⟨i+1,by omega,y0,y29,y30,rfl,((K.trans (WS.fq W.lt o2)).trans (WS.fq W2.lt o3)).trans k4,?_⟩
  rw [flat_snoc hm,←List.append_assoc]
  exact W4
 ·simp -implicitDefEqProofs only [y31,y30,eu,decide_eq_false hi,ah,ao]
  refine dC.out 0 ⟨rfl,K,?_⟩
  rw [List.take_of_length_le (by omega)] at W
  exact W
set_option maxRecDepth 100000 in
theorem r116 {h:ai} {N w lim:Nat} {l:List Nat} {s:dy} {m:aV} (W:IsW h N w lim l) (x:Has h s m) (F:FrS h w s) (hlo:m.low.length≤34) (hhi:m.high.length≤34) (hr:m.cR.length≤64) (hv : ∀ x∈m.cR,recB x=true) (hfit:l.length+(eZ m).length≤lim) : ∃ h',CW 116 [ptr w 0,mv m s] h=some (.tuple #[],h')∧IsW h' N w lim (l++eZ m)∧WS w h h':=by
 obtain ⟨h1,b1,o1,x1,A1,n1,-⟩:=fk x
 have W1:=W.bG o1
 have k1:=WS.fq W.lt o1
 have fb:Fr h1 w h.next:=W.fr o1 (Nat.le_refl _) (by omega)
 have gb:=A1.g
 have J1:WS w h1 h1:=WS.refl _ _
 obtain ⟨ab,cb,vb,sb,tb⟩:=x.sl.b.bytes x.wf.low
 obtain ⟨ac,cc,vc,sc,tc⟩:=x.sl.c.bytes x.wf.high
 obtain ⟨h2,e2,W2,k2⟩:=r133 W1 (c:=cb) ((k1.trans J1).bytes sb (fun y hy hn=>F.b _ (tb y hy hn))) (fun y hy hn=>(k1.trans J1).fr _ (F.b _ (tb y hy hn))) (by unfold eZ at hfit;simp only [List.length_append, ay, ck, eN x.wf.cR] at hfit ⊢;omega) (by omega)
 have J2:=J1.trans k2
 have A2:=c9 x ((J2.get _ fb).trans gb)
 obtain ⟨h3,e3,W3,k3⟩:=r133 W2 (c:=cc) ((k1.trans J2).bytes sc (fun y hy hn=>F.c _ (tc y hy hn))) (fun y hy hn=>(k1.trans J2).fr _ (F.c _ (tc y hy hn))) (by unfold eZ at hfit;simp only [List.length_append, ay, ck, eN x.wf.cR] at hfit ⊢;omega) (by omega)
 have J3:=J2.trans k3
 have A3:=c9 x ((J3.get _ fb).trans gb)
 obtain ⟨h4,e4,W4,k4⟩:=r50 W3 (v:=bit m.want) (by unfold eZ at hfit;simp only [List.length_append, ay, ck, eN x.wf.cR] at hfit ⊢;omega) (by unfold bit;split<;>decide)
 have J4:=J3.trans k4
 have A4:=c9 x ((J4.get _ fb).trans gb)
 obtain ⟨h5,e5,W5,k5⟩:=r49 W4 (v:=m.cR.length) (by unfold eZ at hfit;simp only [List.length_append, ay, ck, eN x.wf.cR] at hfit ⊢;omega) (by omega)
 have J5:=J4.trans k5
 have A5:=c9 x ((J5.get _ fb).trans gb)
 rw [←vb] at e2
 rw [←vc] at e3
 have hw16:IntKind.wrap .u16 ((m.cR.length:Nat):Int)=(m.cR.length:Int):=wrap_u16 (by omega) (by omega)
 have K5:=k1.trans J5
 have fin : ∀ y,y 0=ptr w 0→y 29=s.d→y 30=aH m.cR.length→y 31=aH 0 → ∃ h',ep (iter (aI Tryz.prog CW (partOf Tryz.f116 [1,1,1,1,1,1,0,0])) rounds (bu 44 y) h5) (ax Tryz.prog Tryz.f116.results.toList) (b116_7 CW)=some (.tuple #[],h')∧IsW h' N w lim (l++eZ m)∧WS w h h':=fun y y0 y29 y30 y31=>by
  refine cC (Q:=fun o:Out => ∃ h',o=some (Value.tuple #[],h')∧IsW h' N w lim (l++eZ m)∧WS w h h') (cx (t116l116_1111110_eq CW) (itRound (N:=N) (lim:=lim) (L:=l++cG 2 m.low.length++m.low++cG 2 m.high.length++m.high++cG 1 (bit m.want)++cG 2 m.cR.length) (x.sl.d.ws F.d K5) (F.d.ws K5) x.wf.cR hv (by omega) (by unfold eZ at hfit;simp only [List.length_append, ay, ck, eN x.wf.cR] at hfit ⊢;omega)) m.cR.length (by have:rounds=18446744073709551616:=rfl;omega)
   ⟨0,Nat.zero_add _,y0,y29,y30,y31,WS.refl _ _,by simpa using W5⟩) ?_
  rintro ex z g ⟨rfl,K,W'⟩
  rw [bJ]
  unfold b116_7
  rw [if_pos rfl,results116]
  refine ⟨g,rfl,?_,K5.trans K⟩
  unfold eZ text
  simpa only [List.append_assoc] using W'
 have key : ∃ h',t116 CW (ptr w 0) (mv m s) h=some (.tuple #[],h')∧IsW h' N w lim (l++eZ m)∧WS w h h':=by
  have n4:=x.len.2.2.2.1
  cases hq:m.want with
  |true=>
   have bV:aR (ptr h.next 43) h3=some (.bool true,h3):=by rw [A3.bV,hq]
   have e4:CW 50 [ptr w 0,.int .u8 1] h3=some (.tuple #[],h4):=by
    rw [hq] at e4
    exact e4
   unfold t116
   simp -implicitDefEqProofs only [b1, A1.l7, e2, A2.l8, e3, bV, e4, A4.bO, n4, aH, bg, hw16, e5, A5.bO, ah, ao, ar, Nat.zero_add]
   exact fin _ rfl rfl rfl rfl
  |false=>
   have bV:aR (ptr h.next 43) h3=some (.bool false,h3):=by rw [A3.bV,hq]
   have e4:CW 50 [ptr w 0,.int .u8 0] h3=some (.tuple #[],h4):=by
    rw [hq] at e4
    exact e4
   unfold t116
   simp -implicitDefEqProofs only [b1, A1.l7, e2, A2.l8, e3, bV, e4, A4.bO, n4, aH, bg, hw16, e5, A5.bO, ah, ao, ar, Nat.zero_add]
   exact fin _ rfl rfl rfl rfl
 obtain ⟨h',e,W',K⟩:=key
 exact ⟨h',az is116 W.g4 rfl ((t116_eq _ _ _ _).trans e),W',K⟩
end Go.Proofs.YtjghlcdidopcpaaGreatDoor

namespace Go.Proofs.YtjghlcdidopcpaaGreatDoor
open Go Go.Abs
attribute [local congr] bp
def fi (k:Nat) (m:aV):List Nat:=match k with
 | 1|2=>bPing m
 | 3=>bReq m
 | 4=>bSum m
 | 5=>eZ m
 | 8|10=>bPiece m
 | 11=>bStored m
 |_=>sObjB m
def dF (m:aV):List Nat:=cG 2 21335++(cG 1 1++(cG 1 m.kind++(cG 1 (i8 m.from_)++(cG 1 (i8 m.to_)++(cG 4 (fi m.kind m).length++fi m.kind m)))))
def enc (m:aV):List Nat:=dF m++cG 4 (crcN (dF m))
theorem crcN_lt {l:List Nat} (hb : ∀ x∈l,x<256):crcN l<4294967296:=by
 have h:=crcFold_lt l 4294967295 (by omega) hb
 unfold crcN
 exact Nat.xor_lt_two_pow (n:=32) (by decide) h
theorem tab_fine {m:aV} (h:tabB m=true):m.table.length≤16:=by
 unfold tabB tableB at h
 simp only [Bool.and_eq_true,decide_eq_true_eq] at h
 omega
theorem eF {m:aV} (h:rangeB m=true):m.low.length≤34∧m.high.length≤34∧m.cR.length≤64 ∧ ∀ x∈m.cR,recB x=true:=by
 unfold rangeB at h
 simp only [Bool.and_eq_true,decide_eq_true_eq,Bool.not_eq_true'] at h
 obtain ⟨⟨⟨⟨⟨h1,h2⟩,_⟩,_⟩,h5⟩,h6⟩:=h
 refine ⟨by omega,by omega,by omega,fun x hx => ?_⟩
 have:=List.any_eq_false.1 h6 x hx
 simpa using this
theorem pce_fine {m:aV} (h:pceB m=true):fe m=false∧m.data.length≤8192:=by
 unfold pceB at h
 simp only [Bool.and_eq_true,decide_eq_true_eq,Bool.not_eq_true'] at h
 exact ⟨h.1.1.1,by omega⟩
theorem body_len {k:Nat} {m:aV} (hk:kindOk k=true) (hc:chkB k m=true) (w:m.Wf):(fi k m).length≤20000:=by
 have L1:tabB m=true→(bPing m).length≤20000∧(bReq m).length≤20000:=fun h=>by
  have:=tab_fine h
  unfold bPing bReq
  simp only [List.length_append,ay,br]
  omega
 have L2:rangeB m=true→(bSum m).length≤20000∧(eZ m).length≤20000:=fun h=>by
  obtain ⟨h1,h2,h3,_⟩:=eF h
  unfold bSum eZ
  simp only [List.length_append,ay,ck,eN w.cR,w.root.1]
  omega
 have L3:pceB m=true→(bPiece m).length≤20000:=fun h=>by
  obtain ⟨h1,h2⟩:=pce_fine h
  have:=man_fine h1
  unfold bPiece
  simp only [List.length_append,ay,ck,encMan_len w,w.obj.1]
  omega
 have L4:(sObjB m).length≤20000:=by unfold sObjB;rw [w.obj.1];decide
 have L5:(bStored m).length≤20000:=by unfold bStored;simp only [List.length_append,ay,w.obj.1];decide
 rcases kinds hk with rfl|rfl|rfl|rfl|rfl|rfl|rfl|rfl|rfl|rfl|rfl|rfl|rfl
 ·exact (L1 hc).1
 ·exact (L1 hc).1
 ·exact (L1 hc).2
 ·exact (L2 hc).1
 ·exact (L2 hc).2
 ·exact L4
 ·exact L4
 ·exact L3 hc
 ·exact L4
 ·exact L3 hc
 ·exact L5
 ·exact L4
 ·exact L4
theorem bN (n v:Nat):Bys (cG n v):=by
 induction n with
 |zero=>intro x hx;cases hx
 |succ n ih=>
  intro x hx
  rcases List.mem_cons.1 hx with rfl|hx
  ·exact Nat.mod_lt _ (by decide)
  ·exact ih x hx
theorem Bys.app {a b:List Nat} (x:Bys a) (y:Bys b):Bys (a++b):=fun z hz=>(List.mem_append.1 hz).elim (x z) (y z)
theorem write_call {h:ai} {N w lim:Nat} {l:List Nat} {s:dy} {m:aV} {k:Nat} (hk:kindOk k=true) (hc:chkB k m=true) (W:IsW h N w lim l) (x:Has h s m) (F:FrS h w s) (hfit:l.length+(fi k m).length≤lim) :
  ∃ h',callA Tryz.prog CW (fnV (fmN k).2.2.2.1) [ptr w 0,mv m s] h=some (.tuple #[],h')∧IsW h' N w lim (l++fi k m)∧WS w h h':=by
 rcases kinds hk with rfl|rfl|rfl|rfl|rfl|rfl|rfl|rfl|rfl|rfl|rfl|rfl|rfl
 ·exact (aT CW 97 _ h).symm▸r97 W x F (by have:=tab_fine hc;omega) hfit
 ·exact (aT CW 97 _ h).symm▸r97 W x F (by have:=tab_fine hc;omega) hfit
 ·exact (aT CW 100 _ h).symm▸r100 W x F (by have:=tab_fine hc;omega) hfit
 ·exact (aT CW 113 _ h).symm▸r113 W x F (eF hc).1 (eF hc).2.1 hfit
 ·exact (aT CW 116 _ h).symm▸r116 W x F (eF hc).1 (eF hc).2.1 (eF hc).2.2.1 (eF hc).2.2.2 hfit
 ·exact (aT CW 104 _ h).symm▸r104 W x F hfit
 ·exact (aT CW 104 _ h).symm▸r104 W x F hfit
 ·exact (aT CW 108 _ h).symm▸r108 W x F (pce_fine hc).1 (pce_fine hc).2 hfit
 ·exact (aT CW 104 _ h).symm▸r104 W x F hfit
 ·exact (aT CW 108 _ h).symm▸r108 W x F (pce_fine hc).1 (pce_fine hc).2 hfit
 ·exact (aT CW 120 _ h).symm▸r120 W x F hfit
 ·exact (aT CW 104 _ h).symm▸r104 W x F hfit
 ·exact (aT CW 104 _ h).symm▸r104 W x F hfit
theorem is21:bF Tryz.prog 21 Tryz.f21:=⟨by kernel_rfl,by kernel_rfl,by kernel_rfl,by kernel_rfl⟩
theorem valid_parts {m:aV} (v:cX m=true):kindOk m.kind=true∧chkB m.kind m=true:=by
 unfold cX at v
 simp only [Bool.and_eq_true] at v
 exact ⟨v.1.1.1.1.1,v.1.2⟩
section
variable {h:ai} {s:dy} {m:aV} (hG:4≤h.n0) (x:Has h s m) (sm:m.n.Small)
include hG x sm
set_option maxRecDepth 100000 in
theorem r21 (v:cX m=true) : ∃ a c h',CW 21 [mv m s] h=some (.tuple #[.slice a (enc m).length c,.int .i64 0],h')∧aA a (enc m).length h'=some (enc m)∧cZ a (enc m).length c=true∧Old h h'∧(∀ y,a=some y→h.next≤y.block):=by
 obtain ⟨vk,vc⟩:=valid_parts v
 have hbl:=body_len vk vc x.wf
 obtain ⟨h1,b1,o1,x1,A1,n1,-⟩:=fk x
 have hG1:4≤h1.n0:=by rw [o1.n0];exact hG
 obtain ⟨h2,e2,o2⟩:=r19 hG1 x1 sm
 rw [v] at e2
 have z35:bin Tryz.prog .neq 35 (.int .i64 0) (.int .i64 0)=some (.bool false):=by rw [aD];rfl
 have O2:=o1.trans o2
 have A2:=c9 x (Old.get o2 A1.g)
 obtain ⟨h3,e3,o3⟩:=r35 (h:=h2) (by rw [O2.n0];exact hG) x.wf.kind
 have O3:=O2.trans o3
 obtain ⟨h4,z4,o4,g4,n4⟩:=fresh [(.string ⟨#[]⟩),.nilFunc,.nilFunc,.nilFunc,.nilFunc] h3
 have c:=fmC_ok m.kind
 have p4:h4.n0≤h3.next:=by rw [o4.n0];exact h3.aQ
 obtain ⟨h5,s5,k5,g5,-,n5⟩:=b0 (n:=5) (k':=fmC m.kind) g4 p4 rfl c.2.2 c.2.1
 have o5:Old h3 h5:=Old.fJ o4 k5 (Nat.le_refl _)
 have O5:=O3.trans o5
 obtain ⟨h6,e6,W6,o6,F6⟩:=r47 h5 (by rw [O5.n0];exact hG) (lim:=20000) (by decide)
 have e6:CW 47 [.int .i64 20000] h5=_:=e6
 have O6:=O5.trans o6
 have o16:=((o2.trans o3).trans o5).trans o6
 have A6:=c9 x (Old.get o16 A1.g)
 have f6:aR (ptr h3.next 3) h6=some (fnV (fmN m.kind).2.2.2.1,h6):=aW (Old.get o6 g5) rfl (by unfold fnV;split<;>rfl)
 have lt5:h.next<h5.next:=by
  have:=((o2.trans o3).trans o5).next
  omega
 have FS6:FrS h6 h5.next s:=by
  have key : ∀ b,b<h.next→Fr h6 h5.next b:=fun b hb=>F6 b (by omega)
  exact ⟨fun b hb=>key b (x.sl.a.lt hb),fun b hb=>key b (x.sl.b.lt hb),fun b hb=>key b (x.sl.c.lt hb),fun b hb=>key b (x.sl.d.lt hb),fun b hb=>key b (x.sl.e.lt hb),fun b hb=>key b (x.sl.f.lt hb)⟩
 obtain ⟨h7,e7,W7,k7⟩:=write_call vk vc W6 (x.bG O6) FS6 (by simpa using hbl)
 rw [List.nil_append] at W7
 obtain ⟨a8,c8,h8,e8,s8,gs8,o8,f8⟩:=r48 W7 (by omega)
 have O68:Old h5 h8:=⟨by rw [o8.n0,k7.n0,o6.n0],Nat.le_trans o6.next (Nat.le_trans k7.next o8.next),fun d hd _=>(Kept.get o8 d (Nat.lt_of_lt_of_le (F6 d hd).1 k7.next) (fun h=>h)).trans ((k7.get d (F6 d hd)).trans (Kept.get o6 d hd (fun h=>h)))⟩
 have O8:=O5.trans O68
 have g8:h8.get h.next=some (m.d.cells s):=Old.get O68 (Old.get ((o2.trans o3).trans o5) A1.g)
 have hl8:bC (.slice a8 (fi m.kind m).length c8)=some (aH (fi m.kind m).length):=rfl
 have had:bin Tryz.prog .add 3 (aH (fi m.kind m).length) (.int .i64 14)=some (aH ((fi m.kind m).length+14)):=add3 (b:=14) (by omega)
 obtain ⟨h9,e9,W9,o9,F9⟩:=r47 h8 (by rw [O8.n0];exact hG) (lim:=(fi m.kind m).length+14) (by omega)
 have fb:Fr h9 h8.next h.next:=F9 _ (by have:=O68.next;omega)
 have gb:h9.get h.next=some (m.d.cells s):=Old.get o9 g8
 have K9:WS h8.next h9 h9:=WS.refl _ _
 have Fa : ∀ y,a8=some y→0<(fi m.kind m).length→Fr h9 h8.next y.block:=fun y hy hn=>F9 _ (by
  obtain ⟨b,off,s',k,e,g,_⟩:=(aC s8).2.2 hn
  rw [hy] at e
  cases e
  exact h8.bj g)
 have s9:=Old.bytes o9 s8
 obtain ⟨h10,e10,W10,k10⟩:=r49 W9 (v:=21335) (by simp only [List.length_nil];omega) (by decide)
 have K10:=K9.trans k10
 have A10:=c9 x ((K10.get _ fb).trans gb)
 obtain ⟨h11,e11,W11,k11⟩:=r50 W10 (v:=1) (by simp only [List.length_append,ay,List.length_nil];omega) (by decide)
 have K11:=K10.trans k11
 have A11:=c9 x ((K11.get _ fb).trans gb)
 obtain ⟨h12,e12,W12,k12⟩:=r50 W11 (v:=m.kind) (by simp only [List.length_append,ay,List.length_nil];omega) x.wf.kind
 have K12:=K11.trans k12
 have A12:=c9 x ((K12.get _ fb).trans gb)
 obtain ⟨h13,e13,W13,k13⟩:=r50 W12 (v:=i8 m.from_) (by simp only [List.length_append,ay,List.length_nil];omega) (fC _)
 have K13:=K12.trans k13
 have A13:=c9 x ((K13.get _ fb).trans gb)
 obtain ⟨h14,e14,W14,k14⟩:=r50 W13 (v:=i8 m.to_) (by simp only [List.length_append,ay,List.length_nil];omega) (fC _)
 have K14:=K13.trans k14
 have A14:=c9 x ((K14.get _ fb).trans gb)
 obtain ⟨h15,e15,W15,k15⟩:=r51 W14 (v:=(fi m.kind m).length) (by simp only [List.length_append,ay,List.length_nil];omega) (by omega)
 have K15:=K14.trans k15
 have A15:=c9 x ((K15.get _ fb).trans gb)
 obtain ⟨h16,e16,W16,k16⟩:=r52 W15 (c:=c8) (K15.bytes s9 Fa) (fun y hy hn=>K15.fr _ (Fa y hy hn)) (by simp only [List.length_append,ay,List.length_nil];omega)
 have K16:=K15.trans k16
 have A16:=c9 x ((K16.get _ fb).trans gb)
 have hE : []++cG 2 21335++cG 1 1++cG 1 m.kind++cG 1 (i8 m.from_)++cG 1 (i8 m.to_)++cG 4 (fi m.kind m).length++fi m.kind m=dF m:=by
  unfold dF
  simp only [List.append_assoc,List.nil_append]
 rw [hE] at W16
 have hfl:(dF m).length=(fi m.kind m).length+10:=by
  unfold dF
  simp only [List.length_append,ay]
  omega
 obtain ⟨a17,c17,h17,e17,s17,gs17,o17,f17⟩:=r48 W16 (by omega)
 obtain ⟨h18,e18,o18⟩:=r34 (h:=h17) (by rw [o17.n0];exact W16.g4) (c:=c17) s17 (by omega)
 have W18:=W16.bG (o17.trans o18)
 have hby:Bys (dF m):=(aC s17).2.1
 obtain ⟨h19,e19,W19,k19⟩:=r51 W18 (v:=crcN (dF m)) (by omega) (crcN_lt hby)
 obtain ⟨a20,c20,h20,e20,s20,gs20,o20,f20⟩:=r48 W19 (by rw [List.length_append,ay];omega)
 have K19:=(K16.trans (WS.fq W16.lt (o17.trans o18))).trans k19
 have O20:Old h8 h20:=⟨by rw [o20.n0,K19.n0,o9.n0],Nat.le_trans o9.next (Nat.le_trans K19.next o20.next),fun d hd _=>(Kept.get o20 d (Nat.lt_of_lt_of_le (F9 d hd).1 K19.next) (fun h=>h)).trans ((K19.get d (F9 d hd)).trans (Kept.get o9 d hd (fun h=>h)))⟩
 have e10:CW 49 [ptr h8.next 0,.int .u16 21335] h9=some (.tuple #[],h10):=e10
 have e11:CW 50 [ptr h8.next 0,.int .u8 1] h10=some (.tuple #[],h11):=e11
 have hw32:IntKind.wrap .u32 (((fi m.kind m).length:Nat):Int)=((fi m.kind m).length:Int):=wrap_u32 (by omega) (by omega)
 refine ⟨a20,c20,h20,az is21 hG rfl ((t21_eq _ _ _).trans ?_),s20,gs20,O8.trans O20,fun y hy => ?_⟩
 ·unfold t21
  simp -implicitDefEqProofs only [b1, A1.all, e2, if_true, z35, A2.l0, e3, dQ, dX, z4, s5, e6, f6, A6.all, e7, e8, hl8, had, e9, e10, e11, A11.l0, e12, A12.l1, bg, wrap_i8, e13, A13.l2, e14, aH, hw32, e15, e16, e17, e18, e19, e20, ah, ao, ar, Nat.zero_add]
  rfl
 ·have h1:=f20 y hy
  have h2:=O8.next
  have h3:=Nat.le_trans o9.next K19.next
  omega
end
end Go.Proofs.YtjghlcdidopcpaaGreatDoor

namespace Go.Proofs.YtjghlcdidopcpaaGreatDoor
open Go Go.Abs
attribute [local congr] bp
theorem own_sl {h:ai} {N len:Nat} {ks:List Kd} {v:Value} {cells:List Value} (o:fp h N ks.length v len cells) (t:dS ks len cells):cO h ks v len cells:=by
 obtain ⟨o1,o2,o3,o4⟩:=o
 rcases o4 with ⟨rfl,rfl⟩|⟨b,s,rfl,h5,⟨rfl,rfl⟩|⟨rfl,h6⟩⟩
 ·exact ⟨none,0,rfl,fun _=>rfl,t,fun h=>absurd h (Nat.lt_irrefl 0)⟩
 ·exact ⟨_,_,rfl,fun h=>(by cases h),t,fun h=>absurd h (Nat.lt_irrefl 0)⟩
 ·refine ⟨_,_,rfl,fun h=>(by cases h),t,fun _=>⟨b,0,_,cells,rfl,h6,by omega,?_⟩⟩
  rw [List.drop_zero,←o1,List.take_length]
theorem own_blk {h:ai} {N size len:Nat} {v:Value} {cells:List Value} (o:fp h N size v len cells) {b:Nat} (hb:slB v=some b):N≤b:=by
 obtain ⟨o1,o2,o3,o4⟩:=o
 rcases o4 with ⟨rfl,rfl⟩|⟨b',s,rfl,h5,_⟩
 ·cases hb
 ·cases len with
  |zero=>cases hb
  |succ n=>cases hb;exact h5
theorem eQ {h:ai} {N size len:Nat} {v:Value} {cells:List Value} (o:fp h N size v len cells) {b:Nat} (hb:cN v=some b):N≤b:=by
 obtain ⟨o1,o2,o3,o4⟩:=o
 rcases o4 with ⟨rfl,rfl⟩|⟨b',s,rfl,h5,_⟩
 ·cases hb
 ·cases hb;exact h5
theorem slice1 {h:ai} {ks:List Kd} {b:Nat} {s:Option Nat} {cells:List Value} (g:h.get b=some cells) (t:Typed ks cells):cO h ks (.slice (some ⟨b,0,s⟩) 1 1) 1 cells:=by
 have hl:cells.length=ks.length:=t.1
 refine ⟨_,_,rfl,fun h=>(by cases h),⟨by rw [hl,Nat.one_mul],fun i hi => ?_⟩,fun _=>⟨b,0,s,cells,rfl,g,by omega,?_⟩⟩
 ·obtain rfl:i=0:=by omega
  rw [Nat.zero_mul,List.drop_zero,←hl,List.take_length]
  exact t
 ·rw [List.drop_zero,Nat.one_mul,←hl,List.take_length]
theorem cO.slice {h:ai} {ks:List Kd} {v:Value} {n:Nat} {cs:List Value} (x:cO h ks v n cs):lenA v=some n:=by
 obtain ⟨a,c,rfl,_⟩:=x
 rfl
theorem memC_ok (m:ei):Abs.bw (dv m)=true∧aS (dv m)=true:=⟨rfl,rfl⟩
def pTab:Nat→Rd→List ei×Rd
 | 0,s=>([],s)
 |n+1,s=>(⟨(s.num 8).1,((s.num 8).2.num 1).1⟩::(pTab n ((s.num 8).2.num 1).2).1,(pTab n ((s.num 8).2.num 1).2).2)
def dG (s:Rd):List ei×Rd:=pTab (s.num 1).1 (s.num 1).2
theorem is129:bF Tryz.prog 129 Tryz.f129:=⟨by kernel_rfl,by kernel_rfl,by kernel_rfl,by kernel_rfl⟩
theorem b129_exit (C:av) (e:Env) (h:ai):b129_3 C 0 e h=k129_1 C e h:=rfl
def rtInv (h0:ai) (p r n:Nat) (s0:Rd) (k:Nat) (y:Nat→Value) (g:ai):Prop:=
 ∃ i t s1,i+k=n∧y 0=ptr r 0∧y 5 = .int .u8 (n:Int)∧y 6 = .int .u8 (i:Int)∧fp g h0.next 2 (y 2) t.length (t.flatMap dv)∧(∀ x∈t,x.Wf)∧t.length=i∧fj g p r s1∧Kept h0 g (fun c=>c=r)∧pTab n s0=(t++(pTab k s1).1,(pTab k s1).2)
def rtFin (h0:ai) (p r n:Nat) (s0:Rd) (ex:Ex) (y:Nat→Value) (g:ai):Prop:=
 ex = .exit 0∧fp g h0.next 2 (y 2) (pTab n s0).1.length ((pTab n s0).1.flatMap dv)∧(∀ x∈(pTab n s0).1,x.Wf)∧fj g p r (pTab n s0).2∧Kept h0 g (fun c=>c=r)
theorem rtRound {h0:ai} {p r n:Nat} {s0:Rd} (hn:n<256) (h00:h0.n0≤h0.next) (hr:r<h0.next) : ∀ k y g,rtInv h0 p r n s0 k y g→dC 19 (rtInv h0 p r n s0) (rtFin h0 p r n s0) k (t129l129_1010 CW y g):=by
 rintro k y g ⟨i,t,s1,hik,y0,y5,y6,O,hw,hti,R,K,hp⟩
 unfold t129l129_1010
 cases k with
 |zero=>
  have hd:decide ((i:Int)<(n:Int))=false:=decide_eq_false (by omega)
  simp -implicitDefEqProofs only [y6,y5,aG,hd,ah,ao]
  have hp:pTab n s0=(t,s1):=by rw [hp];simp [pTab]
  exact dC.out 0 ⟨rfl,by rw [hp];exact O,by rw [hp];exact hw,by rw [hp];exact R,K⟩
 |succ k=>
  have hd:decide ((i:Int)<(n:Int))=true:=decide_eq_true (by omega)
  obtain ⟨g1,e1,R1,k1,n1⟩:=q128 R
  obtain ⟨g2,e2,R2,k2,n2⟩:=q73 R1
  have h8:(s1.num 8).1<18446744073709551616:=Rd.fa R.byte 8
  have h1:((s1.num 8).2.num 1).1<256:=Rd.fa R1.byte 1
  generalize hm:(⟨(s1.num 8).1,((s1.num 8).2.num 1).1⟩:ei)=m at *
  have wm:m.Wf:=by rw [←hm];exact ⟨h8,h1⟩
  have hc:dv m = [.int .u64 ((s1.num 8).1:Int),.int .u8 (((s1.num 8).2.num 1).1:Int)]:=by rw [←hm];rfl
  have hb:cQ [(.int .u64 0),(.int .u8 0)] [(0,1,.int .u64 ((s1.num 8).1:Int)),(1,1,.int .u8 (((s1.num 8).2.num 1).1:Int))]=some (.agg (dv m).toArray):=by rw [hc];rfl
  have hbs:bslR 2 (.agg #[(.int .u64 0),(.int .u8 0)]) 1 [(0,.agg (dv m).toArray)] g2=some (.slice (some ⟨g2.next,0,none⟩) 1 1,g2.alloc (dv m)):=by rw [hc];rfl
  have oa:Old g2 (g2.alloc (dv m)):=Kept.alloc _ _ _
  have ga:(g2.alloc (dv m)).get g2.next=some (dv m):=by rw [ai.aO,if_pos rfl]
  have na:(g2.alloc (dv m)).next=g2.next+1:=rfl
  generalize g2.alloc (dv m)=g3 at *
  have S:=slice1 (s:=none) ga (mem_typed wm)
  have kk:Kept g g3 (fun c=>c=r):=((k1.trans k2).trans (oa.mono (fun _ _ h=>h.elim)))
  have hne : ∀ b,cN (y 2)=some b → ¬b=r:=fun b hb e=>by have:=eQ O hb;omega
  have O3:=O.cD kk hne
  have p3:g3.n0≤h0.next:=by rw [kk.n0,K.n0];exact h00
  obtain ⟨v',g4,e4,O4,k4,_⟩:=append_own (by_:=16) O3 p3 (Nat.le_trans K.next kk.next) (by decide) S.slice (S.first (by decide)) (memC_ok m).2 (memC_ok m).1 (by rw [hc];rfl) (by omega) (by omega)
  have R3:=R2.dL oa (fun _ _ h=>h)
  have R4:fj g4 p r _:=R3.dL k4 (fun b hb e=>by
   have:=eQ O3 e.1
   omega)
  have ha:bin Tryz.prog .add 5 (.int .u8 (i:Int)) (.int .u8 1)=some (.int .u8 ((i+1:Nat):Int)):=by
   rw [bin_add,wrap_u8 (by omega) (by omega)]
   exact congrArg (fun z=>some (Value.int .u8 z)) (by omega)
  simp -implicitDefEqProofs only [y6,y5,aG,hd,y0,e1,e2,hb,hbs,e4,ha,ah,ao]
  refine dC.next k (by omega) ⟨i+1,t ++ [m],_,by omega,y0,y5,rfl,?_,?_,by rw [List.length_append,hti];rfl,R4,(K.trans kk).dr k4 (fun d hd e=>by
   have:=eQ O3 e.1
   omega),?_⟩
  ·show fp g4 h0.next 2 v' (t ++ [m]).length ((t ++ [m]).flatMap dv)
   rw [List.flatMap_append,List.length_append]
   simpa using O4
  ·intro x hx
   rcases List.mem_append.1 hx with hx|hx
   ·exact hw x hx
   ·simp only [List.mem_cons,List.not_mem_nil,or_false] at hx
    subst hx;exact wm
  ·rw [hp,←hm]
   simp [pTab]
theorem q129 {h:ai} {p r:Nat} {s:Rd} (R:fj h p r s) : ∃ v h',CW 129 [ptr r 0] h=some (v,h')∧fj h' p r (dG s).2∧cO h' memK v (dG s).1.length ((dG s).1.flatMap dv)∧(∀ x∈(dG s).1,x.Wf)∧(∀ b,slB v=some b→h.next≤b)∧Kept h h' (fun c=>c=r):=by
 obtain ⟨h1,e1,R1,k1,n1⟩:=q73 R
 have hn:(s.num 1).1<256:=Rd.fa R.byte 1
 have key : ∃ v h',t129 CW (ptr r 0) h=some (v,h')∧fj h' p r (dG s).2∧cO h' memK v (dG s).1.length ((dG s).1.flatMap dv)∧(∀ x∈(dG s).1,x.Wf)∧(∀ b,slB v=some b→h.next≤b)∧Kept h h' (fun c=>c=r):=by
  unfold t129
  simp -implicitDefEqProofs only [ah,e1]
  refine cC (Q:=fun o:Out => ∃ v h',o=some (v,h')∧fj h' p r (dG s).2∧cO h' memK v (dG s).1.length ((dG s).1.flatMap dv)∧(∀ x∈(dG s).1,x.Wf)∧(∀ b,slB v=some b→h.next≤b)∧Kept h h' (fun c=>c=r)) (cx (t129l129_1010_eq CW) (rtRound (p:=p) (r:=r) (s0:=(s.num 1).2) hn h1.aQ R1.lt) (s.num 1).1 (by have:rounds=18446744073709551616:=rfl;omega)
   ⟨0,[],(s.num 1).2,Nat.zero_add _,rfl,rfl,rfl,.nil _ _ _,(fun x hx=>by cases hx),rfl,R1,Kept.refl _ _,rfl⟩) ?_
  rintro ex z g ⟨rfl,O,hw,R',K⟩
  rw [bJ,b129_exit,t129k129_1_eq]
  unfold t129k129_1
  exact ⟨z 2,g,rfl,R',own_sl O (eO (P:=ei.Wf) (fun a ha=>mem_typed ha) _ hw),hw,fun b hb=>by
   have:=own_blk O hb
   omega,k1.trans K⟩
 obtain ⟨v,h',e,rest⟩:=key
 exact ⟨v,h',az is129 R.g4 rfl ((t129_eq _ _ _).trans e),rest⟩
end Go.Proofs.YtjghlcdidopcpaaGreatDoor

namespace Go.Proofs.YtjghlcdidopcpaaGreatDoor
open Go Go.Abs
attribute [local congr] bp
theorem copy_mid {h:ai} {b off dc c n:Nat} {s:Option Nat} {a:Option Addr} {A B C:List Value} {l:List Nat} (g:h.get b=some (A++(B++C))) (h0:h.n0≤b) (hA:A.length=off) (hB:B.length=n) (hs:aA a n h=some l) (hn:0<n) :
  ∃ g',copyA 1 (.slice (some ⟨b,off,s⟩) n dc) (.slice a n c) h=some (aH n,g')∧Kept h g' (· = b)∧g'.get b=some (A++(bY l++C))∧g'.next=h.next:=by
 obtain ⟨hl,hb,_⟩:=aC hs
 have hf:=firstA_of hs (Nat.le_refl n) (c:=c)
 rw [List.take_of_length_le (by omega)] at hf
 have hsp:bA (A++(B++C)) off (bY l)=A++(bY l++C):=splice_app hA hB (by rw [List.length_map];exact hl)
 refine ⟨h.set b (A++(bY l++C)),?_,Kept.set h0 g (.inr rfl),ai.bT h0 g _,rfl⟩
 unfold copyA
 simp only [lenA]
 rw [Nat.min_self,hf]
 simp only
 rw [if_neg (by omega)]
 unfold stL
 simp only [g]
 rw [if_pos (by
  have h1:off+(bY l).length≤(A++(B++C)).length:=by rw [List.length_append,List.length_append,List.length_map,hA,hB];omega
  simp only [decide_eq_true h0,decide_eq_true h1,(dY l).2,Bool.and_self]),hsp]
 rfl
section
variable {x:bR} (ho:x.obj.length=32)
include ho
theorem rset33 (v:Int):(recC x).set 33 (.int .i64 v)=recC { x with cM:=v }:=bQ (A := .int .u8 (x.kind:Int)::bY x.obj) 0 (by simp [ho]) rfl
theorem rset34 (v:Nat):(recC x).set 34 (.int .u64 (v:Int))=recC { x with inc:=v }:=bQ (A := .int .u8 (x.kind:Int)::bY x.obj) 1 (by simp [ho]) rfl
theorem rset35 (v:Nat):(recC x).set 35 (.int .u64 (v:Int))=recC { x with num:=v }:=bQ (A := .int .u8 (x.kind:Int)::bY x.obj) 2 (by simp [ho]) rfl
theorem rset36 (v:Bool):(recC x).set 36 (.bool v)=recC { x with held:=v }:=bQ (A := .int .u8 (x.kind:Int)::bY x.obj) 3 (by simp [ho]) rfl
theorem rset37 (v:Int):(recC x).set 37 (.int .i64 v)=recC { x with k:=v }:=bQ (A := .int .u8 (x.kind:Int)::bY x.obj) 4 (by simp [ho]) rfl
theorem rset38 (v:Int):(recC x).set 38 (.int .i64 v)=recC { x with n:=v }:=bQ (A := .int .u8 (x.kind:Int)::bY x.obj) 5 (by simp [ho]) rfl
theorem recC_len:(recC x).length=39:=by unfold recC bY;simp [ho]
end
def decRx (l:List Nat):bR:=⟨be (l.take 1),(l.drop 1).take 32,(be ((l.drop 33).take 1):Nat),be ((l.drop 34).take 8),be ((l.drop 42).take 8),be ((l.drop 50).take 1)==1,(be ((l.drop 51).take 1):Nat),(be ((l.drop 52).take 1):Nat)⟩
def decR (l:List Nat):bR×Int:=
 if l.length<53 then (bR.z,4) else if 53<l.length then (bR.z,3) else if 1<be ((l.drop 50).take 1) then (bR.z,5) else if recB (decRx l) then (decRx l,0) else (bR.z,2)
theorem be1_lt {l:List Nat} (hb:Bys l) (j:Nat):be ((l.drop j).take 1)<256:=be_lt' (n:=1) (by rw [List.length_take];omega) fun x hx=>hb x (List.mem_of_mem_drop (List.mem_of_mem_take hx))
theorem be8_lt {l:List Nat} (hb:Bys l) (j:Nat):be ((l.drop j).take 8)<18446744073709551616:=be_lt' (n:=8) (by rw [List.length_take];omega) fun x hx=>hb x (List.mem_of_mem_drop (List.mem_of_mem_take hx))
theorem i64_nat {n:Nat} (h:n<256):I64 (n:Int):=⟨by omega,by omega⟩
theorem bR.z_wf:bR.z.Wf:=⟨by decide,z32_ok,eK,by decide,by decide,eK,eK⟩
theorem decRx_wf {l:List Nat} (hl:l.length=53) (hb:Bys l):(decRx l).Wf:=
 ⟨be1_lt hb 0,⟨by show ((l.drop 1).take 32).length=32;rw [List.length_take,List.length_drop];omega,fun x hx=>hb x (List.mem_of_mem_drop (List.mem_of_mem_take hx))⟩,i64_nat (be1_lt hb 33),be8_lt hb 34,be8_lt hb 42,i64_nat (be1_lt hb 51),i64_nat (be1_lt hb 52)⟩
theorem decR_wf {l:List Nat} (hb:Bys l):(decR l).1.Wf:=by
 unfold decR
 split
 ·exact bR.z_wf
 split
 ·exact bR.z_wf
 split
 ·exact bR.z_wf
 split
 ·exact decRx_wf (by omega) hb
 ·exact bR.z_wf
theorem agg61:aggT Tryz.prog 61=some true:=by kernel_rfl
theorem siz61:cu Tryz.prog 61=some 39:=by kernel_rfl
theorem results140:Tryz.f140.results.toList = [.cell 2 61,.tmp 3]:=by kernel_rfl
theorem is140:bF Tryz.prog 140 Tryz.f140:=⟨by kernel_rfl,by kernel_rfl,by kernel_rfl,by kernel_rfl⟩
theorem rec_end {h0 h:ai} {b:Nat} {k:dt} (o:Old h0 h) (hb:h0.next≤b) (g:h.get b=some k) (hk:k.length=39) {r:bR} (w:r.Wf) : ∃ h',cA 39 (ptr b 0) (.agg (recC r).toArray) h=some (undef,h')∧cq 39 (ptr b 0) h'=some (.agg (recC r).toArray,h')∧Old h0 h':=by
 have hn:h.n0≤b:=by rw [o.n0];exact Nat.le_trans h0.aQ hb
 obtain ⟨h',e1,k1,g1,_,_⟩:=b0 (n:=39) g hn hk (bB w).1 (bB w).2.2
 exact ⟨h',e1,ez g1 (bB w).1 (bB w).2.1,Old.fJ o k1 hb⟩
set_option maxRecDepth 100000 in
theorem q140 {h:ai} (hG:4≤h.n0) {a:Option Addr} {n c:Nat} {l:List Nat} (hl:aA a n h=some l) (hn:n≤21000) : ∃ h',CW 140 [.slice a n c] h=some (.tuple #[.agg (recC (decR l).1).toArray,.int .i64 (decR l).2],h')∧Old h h':=by
 obtain ⟨hlen,hby,_⟩:=aC hl
 obtain ⟨h1,z1,o1,g1,n1⟩:=fresh [(.int .u8 0),(.int .u8 0),(.int .u8 0),(.int .u8 0),(.int .u8 0),(.int .u8 0),(.int .u8 0),(.int .u8 0),(.int .u8 0),(.int .u8 0),(.int .u8 0),(.int .u8 0),(.int .u8 0),(.int .u8 0),(.int .u8 0),(.int .u8 0),(.int .u8 0),(.int .u8 0),(.int .u8 0),(.int .u8 0),(.int .u8 0),(.int .u8 0),(.int .u8 0),(.int .u8 0),(.int .u8 0),(.int .u8 0),(.int .u8 0),(.int .u8 0),(.int .u8 0),(.int .u8 0),(.int .u8 0),(.int .u8 0),(.int .u8 0),(.int .i64 0),(.int .u64 0),(.int .u64 0),(.bool false),(.int .i64 0),(.int .i64 0)] h
 have bz:cQ [(.int .u8 0),(.int .u8 0),(.int .u8 0),(.int .u8 0),(.int .u8 0),(.int .u8 0),(.int .u8 0),(.int .u8 0),(.int .u8 0),(.int .u8 0),(.int .u8 0),(.int .u8 0),(.int .u8 0),(.int .u8 0),(.int .u8 0),(.int .u8 0),(.int .u8 0),(.int .u8 0),(.int .u8 0),(.int .u8 0),(.int .u8 0),(.int .u8 0),(.int .u8 0),(.int .u8 0),(.int .u8 0),(.int .u8 0),(.int .u8 0),(.int .u8 0),(.int .u8 0),(.int .u8 0),(.int .u8 0),(.int .u8 0),(.int .u8 0),(.int .i64 0),(.int .u64 0),(.int .u64 0),(.bool false),(.int .i64 0),(.int .i64 0)] []=some (.agg (recC bR.z).toArray):=rfl
 have hln:bC (.slice a n c)=some (aH n):=rfl
 unfold decR
 by_cases c1:l.length<53
 ·rw [if_pos c1]
  have q1:bin Tryz.prog .lss 3 (aH n) (.int .i64 53)=some (.bool true):=by rw [aG,decide_eq_true (by omega)]
  obtain ⟨h2,e2,l2,o2⟩:=rec_end o1 (Nat.le_refl _) g1 rfl bR.z_wf
  refine ⟨h2,az is140 hG rfl ((t140_eq _ _ _).trans ?_),o2⟩
  unfold t140
  simp -implicitDefEqProofs only [z1,hln,q1,bz,e2,ah,ao]
  exact bo results140 agg61 siz61 (show 2<58 by decide) (show 3<58 by decide) _ l2
 rw [if_neg c1]
 have q1:bin Tryz.prog .lss 3 (aH n) (.int .i64 53)=some (.bool false):=by rw [aG,decide_eq_false (by omega)]
 by_cases c2:53<l.length
 ·rw [if_pos c2]
  have q2:bin Tryz.prog .gtr 3 (aH n) (.int .i64 53)=some (.bool true):=by rw [aF,decide_eq_true (by omega)]
  obtain ⟨h2,e2,l2,o2⟩:=rec_end o1 (Nat.le_refl _) g1 rfl bR.z_wf
  refine ⟨h2,az is140 hG rfl ((t140_eq _ _ _).trans ?_),o2⟩
  unfold t140
  simp -implicitDefEqProofs only [z1,hln,q1,q2,bz,e2,ah,ao]
  exact bo results140 agg61 siz61 (show 2<58 by decide) (show 3<58 by decide) _ l2
 rw [if_neg c2]
 have q2:bin Tryz.prog .gtr 3 (aH n) (.int .i64 53)=some (.bool false):=by rw [aF,decide_eq_false (by omega)]
 have h53:l.length=53:=by omega
 obtain ⟨r,h2,e2,R2,o2,lr⟩:=r32 (h:=h1) (by rw [o1.n0];exact hG) (c:=c) (Old.bytes o1 hl) hn
 have rl2:=R2.lt
 obtain ⟨h3,e3,K3⟩:=r73 R2 (by omega)
 have R3:=K3.rd
 have O3:Old h1 h3:=o2.dr K3.kept (fun d hd e=>by omega)
 have n3:=K3.next
 have bk:cQ [(.int .u8 0),(.int .u8 0),(.int .u8 0),(.int .u8 0),(.int .u8 0),(.int .u8 0),(.int .u8 0),(.int .u8 0),(.int .u8 0),(.int .u8 0),(.int .u8 0),(.int .u8 0),(.int .u8 0),(.int .u8 0),(.int .u8 0),(.int .u8 0),(.int .u8 0),(.int .u8 0),(.int .u8 0),(.int .u8 0),(.int .u8 0),(.int .u8 0),(.int .u8 0),(.int .u8 0),(.int .u8 0),(.int .u8 0),(.int .u8 0),(.int .u8 0),(.int .u8 0),(.int .u8 0),(.int .u8 0),(.int .u8 0),(.int .u8 0),(.int .i64 0),(.int .u64 0),(.int .u64 0),(.bool false),(.int .i64 0),(.int .i64 0)] [(0,1,.int .u8 ((be (l.take 1):Nat):Int))]=some (.agg (recC { bR.z with kind:=be (l.take 1) }).toArray):=rfl
 have wk:({ bR.z with kind:=be (l.take 1) }:bR).Wf:={ bR.z_wf with kind:=be1_lt hby 0 }
 obtain ⟨h4,z4,o4,g4,n4⟩:=fresh [(.int .u8 0),(.int .u8 0),(.int .u8 0),(.int .u8 0),(.int .u8 0),(.int .u8 0),(.int .u8 0),(.int .u8 0),(.int .u8 0),(.int .u8 0),(.int .u8 0),(.int .u8 0),(.int .u8 0),(.int .u8 0),(.int .u8 0),(.int .u8 0),(.int .u8 0),(.int .u8 0),(.int .u8 0),(.int .u8 0),(.int .u8 0),(.int .u8 0),(.int .u8 0),(.int .u8 0),(.int .u8 0),(.int .u8 0),(.int .u8 0),(.int .u8 0),(.int .u8 0),(.int .u8 0),(.int .u8 0),(.int .u8 0),(.int .u8 0),(.int .i64 0),(.int .u64 0),(.int .u64 0),(.bool false),(.int .i64 0),(.int .i64 0)] h3
 have p4:h4.n0≤h3.next:=by rw [o4.n0];exact h3.aQ
 obtain ⟨h5,e5,k5,g5,p5,n5⟩:=b0 (n:=39) (k':=recC { bR.z with kind:=be (l.take 1) }) g4 p4 rfl (bB wk).1 (bB wk).2.2
 have o35:Old h3 h5:=Old.fJ o4 k5 (Nat.le_refl _)
 have O5:=O3.trans o35
 have R5:=R3.dL o35 (fun _ _ h=>h)
 obtain ⟨a6,c6,h6,e6,s6,_,R6,k6,_⟩:=r74 R5 (n:=32) (by rw [List.length_drop];omega)
 have e6:CW 74 [ptr r 0,.int .i64 32] h5=_:=e6
 have O6:Old h1 h6:=O5.dr k6 (fun d hd e=>by omega)
 have hD:r<h3.next:=by omega
 have g6:h6.get h3.next=some (recC { bR.z with kind:=be (l.take 1) }):=k6.fo g5 (by omega)
 have p6:h6.n0≤h3.next:=by rw [k6.n0];exact p5
 obtain ⟨h7,e7,k7,g7,n7⟩:=copy_mid (A := [.int .u8 ((be (l.take 1):Nat):Int)]) (B:=bY z32) (C := [.int .i64 0,.int .u64 0,.int .u64 0,.bool false,.int .i64 0,.int .i64 0]) (off:=1) (n:=32) (dc:=32) (c:=c6) (s:=none) g6 p6 rfl rfl s6 (by decide)
 have kD : ∀ {b:Nat},b=r∨(h1.next≤b∧b<r) → ¬b=h3.next:=fun hb e=>by omega
 have R7:=R6.dL k7 (fun b hb e=>kD hb e)
 have O7:Old h1 h7:=O6.dr k7 (fun d hd e=>by have:=O3.next;omega)
 have p7:h7.n0≤h3.next:=by rw [k7.n0];exact p6
 have g7:h7.get h3.next=some (recC { bR.z with kind:=be (l.take 1),obj:=(l.drop 1).take 32 }):=g7
 rw [List.drop_drop] at R7
 have hobj:((l.drop 1).take 32).length=32:=by rw [List.length_take,List.length_drop];omega
 obtain ⟨h8,e8,K8⟩:=r73 R7 (by rw [List.length_drop];omega)
 have R8:=K8.rd
 rw [List.drop_drop] at R8
 have O8:Old h1 h8:=O7.dr K8.kept (fun d hd e=>by omega)
 have g8:=K8.kept.fo g7 (by omega)
 have p8:h8.n0≤h3.next:=by rw [K8.kept.n0];exact p7
 obtain ⟨h9,e9,K9⟩:=r128 R8 (by rw [List.length_drop];omega)
 have R9:=K9.rd
 rw [List.drop_drop] at R9
 have O9:Old h1 h9:=O8.dr K9.kept (fun d hd e=>by omega)
 have g9:=K9.kept.fo g8 (by omega)
 have p9:h9.n0≤h3.next:=by rw [K9.kept.n0];exact p8
 obtain ⟨h10,e10,K10⟩:=r128 R9 (by rw [List.length_drop];omega)
 have R10:=K10.rd
 rw [List.drop_drop] at R10
 have O10:Old h1 h10:=O9.dr K10.kept (fun d hd e=>by omega)
 have g10:=K10.kept.fo g9 (by omega)
 have p10:h10.n0≤h3.next:=by rw [K10.kept.n0];exact p9
 obtain ⟨h11,e11,k11,g11,p11,_⟩:=stored (v := .int .i64 ((be ((l.drop 33).take 1):Nat):Int)) (o:=33) g10 p10 (by rw [recC_len hobj];decide) rfl rfl
 rw [rset33 hobj] at g11
 have R11:=R10.dL k11 (fun b hb e=>kD hb e)
 have O11:Old h1 h11:=O10.dr k11 (fun d hd e=>by have:=O3.next;omega)
 obtain ⟨h12,e12,k12,g12,p12,_⟩:=stored (v := .int .u64 ((be ((l.drop 34).take 8):Nat):Int)) (o:=34) g11 p11 (by rw [recC_len hobj];decide) rfl rfl
 rw [rset34 hobj] at g12
 have R12:=R11.dL k12 (fun b hb e=>kD hb e)
 have O12:Old h1 h12:=O11.dr k12 (fun d hd e=>by have:=O3.next;omega)
 obtain ⟨h13,e13,k13,g13,p13,_⟩:=stored (v := .int .u64 ((be ((l.drop 42).take 8):Nat):Int)) (o:=35) g12 p12 (by rw [recC_len hobj];decide) rfl rfl
 rw [rset35 hobj] at g13
 have R13:=R12.dL k13 (fun b hb e=>kD hb e)
 have O13:Old h1 h13:=O12.dr k13 (fun d hd e=>by have:=O3.next;omega)
 obtain ⟨h14,e14,K14⟩:=r73 R13 (by rw [List.length_drop];omega)
 have R14:=K14.rd
 rw [List.drop_drop] at R14
 have O14:Old h1 h14:=O13.dr K14.kept (fun d hd e=>by omega)
 have g14:=K14.kept.fo g13 (by omega)
 have p14:h14.n0≤h3.next:=by rw [K14.kept.n0];exact p13
 obtain ⟨h15,e15,K15⟩:=r73 R14 (by rw [List.length_drop];omega)
 have R15:=K15.rd
 rw [List.drop_drop] at R15
 have O15:Old h1 h15:=O14.dr K15.kept (fun d hd e=>by omega)
 have g15:=K15.kept.fo g14 (by omega)
 have p15:h15.n0≤h3.next:=by rw [K15.kept.n0];exact p14
 obtain ⟨h16,e16,K16⟩:=r73 R15 (by rw [List.length_drop];omega)
 have R16:=K16.rd
 rw [List.drop_drop] at R16
 have O16:Old h1 h16:=O15.dr K16.kept (fun d hd e=>by omega)
 have g16:=K16.kept.fo g15 (by omega)
 have p16:h16.n0≤h3.next:=by rw [K16.kept.n0];exact p15
 obtain ⟨h17,e17,k17,g17,p17,_⟩:=stored (v := .bool (be ((l.drop 50).take 1)==1)) (o:=36) g16 p16 (by rw [recC_len hobj];decide) rfl rfl
 rw [rset36 hobj] at g17
 have R17:=R16.dL k17 (fun b hb e=>kD hb e)
 have O17:Old h1 h17:=O16.dr k17 (fun d hd e=>by have:=O3.next;omega)
 obtain ⟨h18,e18,k18,g18,p18,_⟩:=stored (v := .int .i64 ((be ((l.drop 51).take 1):Nat):Int)) (o:=37) g17 p17 (by rw [recC_len hobj];decide) rfl rfl
 rw [rset37 hobj] at g18
 have R18:=R17.dL k18 (fun b hb e=>kD hb e)
 have O18:Old h1 h18:=O17.dr k18 (fun d hd e=>by have:=O3.next;omega)
 obtain ⟨h19,e19,k19,g19,p19,_⟩:=stored (v := .int .i64 ((be ((l.drop 52).take 1):Nat):Int)) (o:=38) g18 p18 (by rw [recC_len hobj];decide) rfl rfl
 rw [rset38 hobj] at g19
 have R19:=R18.dL k19 (fun b hb e=>kD hb e)
 have O19:Old h1 h19:=O18.dr k19 (fun d hd e=>by have:=O3.next;omega)
 have g19:h19.get h3.next=some (recC (decRx l)):=g19
 have wx:=decRx_wf h53 hby
 have l19:cq 39 (ptr h3.next 0) h19=some (.agg (recC (decRx l)).toArray,h19):=ez g19 (bB wx).1 (bB wx).2.1
 have w1 : ∀ j,IntKind.wrap .i64 ((be ((l.drop j).take 1):Nat):Int)=((be ((l.drop j).take 1):Nat):Int):=fun j=>by
  have:=be1_lt hby j
  exact wrap_i64 (by omega) (by omega)
 have w33:=w1 33
 have w51:=w1 51
 have w52:=w1 52
 have hheld:((((be ((l.drop 50).take 1):Nat):Int))==1)=(be ((l.drop 50).take 1)==1):=by
  by_cases e:be ((l.drop 50).take 1)=1
  ·rw [e];rfl
  ·rw [beq_eq_false_iff_ne.2 e,beq_eq_false_iff_ne.2 (by omega)]
 have g1':=Old.get O19 g1
 by_cases c3:1<be ((l.drop 50).take 1)
 ·rw [if_pos c3]
  have q3:bin Tryz.prog .gtr 5 (.int .u8 ((be ((l.drop 50).take 1):Nat):Int)) (.int .u8 1)=some (.bool true):=by rw [aF,decide_eq_true (by omega)]
  obtain ⟨h20,e20,l20,o20⟩:=rec_end (o1.trans O19) (Nat.le_refl _) g1' rfl bR.z_wf
  refine ⟨h20,az is140 hG rfl ((t140_eq _ _ _).trans ?_),o20⟩
  unfold t140
  simp -implicitDefEqProofs only [z1,hln,q1,q2,e2,e3,bk,z4,e5,ar,Nat.zero_add,arr32,e6,e7,e8,e9,e10,e11,e12,e13,e14,e15,e16,e17,e18,e19,bg,w33,w51,w52,aJ,hheld,ah,ao,q3,bz,e20]
  exact bo results140 agg61 siz61 (show 2<58 by decide) (show 3<58 by decide) _ l20
 rw [if_neg c3]
 have q3:bin Tryz.prog .gtr 5 (.int .u8 ((be ((l.drop 50).take 1):Nat):Int)) (.int .u8 1)=some (.bool false):=by rw [aF,decide_eq_false (by omega)]
 obtain ⟨h20,e20,o20⟩:=r138 (h:=h19) R19.g4 wx
 have O20:=o1.trans (O19.trans o20)
 have g1'':=Old.get o20 g1'
 cases c4:recB (decRx l) with
 |false=>
  rw [c4] at e20
  obtain ⟨h21,e21,l21,o21⟩:=rec_end O20 (Nat.le_refl _) g1'' rfl bR.z_wf
  refine ⟨h21,az is140 hG rfl ((t140_eq _ _ _).trans ?_),o21⟩
  unfold t140
  simp -implicitDefEqProofs only [z1,hln,q1,q2,e2,e3,bk,z4,e5,ar,Nat.zero_add,arr32,e6,e7,e8,e9,e10,e11,e12,e13,e14,e15,e16,e17,e18,e19,bg,w33,w51,w52,aJ,hheld,ah,ao,q3,l19,e20,aw,Bool.not_false,bz,e21]
  exact bo results140 agg61 siz61 (show 2<58 by decide) (show 3<58 by decide) _ l21
 |true=>
  rw [c4] at e20
  have l20:cq 39 (ptr h3.next 0) h20=some (.agg (recC (decRx l)).toArray,h20):=ez (Old.get o20 g19) (bB wx).1 (bB wx).2.1
  obtain ⟨h21,e21,l21,o21⟩:=rec_end O20 (Nat.le_refl _) g1'' rfl wx
  refine ⟨h21,az is140 hG rfl ((t140_eq _ _ _).trans ?_),o21⟩
  unfold t140
  simp -implicitDefEqProofs only [z1,hln,q1,q2,e2,e3,bk,z4,e5,ar,Nat.zero_add,arr32,e6,e7,e8,e9,e10,e11,e12,e13,e14,e15,e16,e17,e18,e19,bg,w33,w51,w52,aJ,hheld,ah,ao,q3,l19,e20,aw,Bool.not_true,l20,e21]
  exact bo results140 agg61 siz61 (show 2<58 by decide) (show 3<58 by decide) _ l21
end Go.Proofs.YtjghlcdidopcpaaGreatDoor

