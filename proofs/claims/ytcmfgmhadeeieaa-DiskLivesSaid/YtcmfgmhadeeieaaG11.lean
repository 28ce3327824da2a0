/-
  A part of the proof, spaces and names shortened by a program (a claim may hold 1,500,000 bytes).
  Conditions: as each theorem states.
-/
import Derived.Test.YtcmfgmhadeeieaaG10
namespace Go.Proofs.Ytcmfgmhadeeieaa
open Go Go.Abs
structure RB (h0:ah) (N d bb n:Nat) (v:Value) (y:Nat→Value) (g:ah) (i:Nat):Prop where
 y0:y 0=aq n
 y1:y 1=v
 y5:y 5=ptr d 0
 y9:y 9=aq i
 dk : ∃ D,bf g d D∧D.n=n∧D.bb=bb∧D.down=false∧D.ca=false ∧ ∃ vals L sp rows,Last g N d bb n (y 7) vals L sp rows ∧ ∀ j,j<n→vals.getD j []=D.read (j:Int)
 n0:g.n0=h0.n0
 next:N≤g.next
 bJ : ∀ b,b<N→g.get b=h0.get b
section
variable (C:al) (H20 : ∀ args h,C 20 args h=s20 args h)
include H20
theorem rb_tail {h0:ah} {N d bb n i:Nat} {v:Value} {y:Nat→Value} {g:ah} {D:Dk} {A:Int} {kd kb km:Value} {data:List Nat} {O dn dc L:Nat} {da:Option Addr} {rv:Value} {vals:List (List Nat)} {sp:Option Nat} {rows:List Value} {e:Int}
  (_dN:N≤d) (bN:N≤bb) (_hn0:h0.n0≤N) (hn:n≤4096) (y0:y 0=aq n) (y1:y 1=v) (y5:y 5=ptr d 0) (y9:y 9=aq i) (hi:i≤100) (bM:y 10=ptr O 0) (bX:y 12 = .int .i64 e)
  (hO:g.get O=some [kd,.int .i64 A,kb,km,.slice da dn dc,rv]) (hdata:av da dn g=some data) (hdl:dn≤21000) (_D0:Dk)
  (gn0:g.n0=h0.n0) (gnext:N≤g.next) (gold : ∀ b,b<N→g.get b=h0.get b)
  (dk:bf g d (D.write A data).2) (h00:ah) (dk00:bf h00 d D) (hDn:D.n=n) (hDb:D.bb=bb) (hdown:D.down=false) (harm:D.ca=false) (he:e=(D.write A data).1)
  (hL:Last g N d bb n (y 7) vals L sp rows) (hv : ∀ j,j<n→vals.getD j []=D.read (j:Int)) :
  ∃ y' g',t4k4_27 C y g=some (.normal,aY 135 y',g')∧RB h0 N d bb n v y' g' (i+1):=by
 obtain ⟨hdlen,hdb,_⟩:=aw hdata
 have l1:ba (ptr O 1) g=some (.int .i64 A,g):=aN hO rfl
 have l4:ba (ptr O 4) g=some (.slice da dn dc,g):=aN hO rfl
 have fin : ∀ {X:Nat→Value} {G:ah} {E:Dk} {vals':List (List Nat)} {L':Nat} {sp':Option Nat} {rows':List Value},bf G d E→E.n=n→E.bb=bb→E.down=false→E.ca=false→Last G N d bb n (X 7) vals' L' sp' rows'→(∀ j,j<n→vals'.getD j []=E.read (j:Int)) →
   X 0=aq n→X 1=v→X 5=ptr d 0→X 9=aq i→X 15 = .int .i64 0→G.n0=h0.n0→N≤G.next→(∀ b,b<N→G.get b=h0.get b) →
   ∃ y' g',dD (iter (aI Try.prog C (partOf Try.f4 [1,1,1,1,1,1,0,1,0,0,1,0,0,1,1,1,1,1,1,1,1,0,0])) rounds (aY 135 X) G) (fun e h=>some (Ex.ret,e,h)) (b4_38 C)=some (.normal,aY 135 y',g')∧RB h0 N d bb n v y' g' (i+1):=by
  intro X G E vals' L' sp' rows' dkE hEn hEb hEd hEa hL' hv' x0 x1 x5 x9 x15 Gn Gx Go
  subst hEb
  refine cn (Q:=fun o:Option (Ex×Env×ah) => ∃ y' g',o=some (Ex.normal,aY 135 y',g')∧RB h0 N d E.bb n v y' g' (i+1)) (rb_check C H20 X G N d n E vals' L' sp' rows' dkE hEn hEd hn hL' hv' x0 x5 x15) ?_
  rintro ex z g' ⟨rfl,z0,z1,z5,z7,z9,zn,zx,zo⟩
  simp -implicitDefEqProofs only [bA,b4_38,if_true,t4k4_22_eq]
  unfold t4k4_22
  simp -implicitDefEqProofs only [z9,x9,af,dL,aj]
  refine ⟨_,_,rfl,?_⟩
  refine ⟨?_,?_,?_,?_,⟨E,dkE.mono zn (zo d dkE.lt) (zo E.bb dkE.blt),hEn,rfl,hEd,hEa,vals',L',sp',rows',?_,hv'⟩,zn.trans Gn,Nat.le_trans Gx zx,fun b hb=>(zo b (by omega)).trans (Go b hb)⟩
  ·simp only [aM,aV,Nat.reduceEqDiff,if_false,z0,x0]
  ·simp only [aM,aV,Nat.reduceEqDiff,if_false,z1,x1]
  ·simp only [aM,aV,Nat.reduceEqDiff,if_false,z5,x5]
  ·simp only [aM,aV,Nat.reduceEqDiff,if_false,if_true]
   rw [bD (by omega) (by omega)]
   exact congrArg (Value.int .i64) (by omega)
  ·simp only [aM,aV,Nat.reduceEqDiff,if_false,z7]
   exact hL'.move zn (fun b hb _ _=>zo b hb)
 have hLd:L<g.next:=g.aR hL.get
 have hbad : ¬(0≤A∧A<n∧dn=128)→(e==0)=false∧(D.write A data).2=D:=by
  intro hc
  unfold Dk.write at he ⊢
  by_cases c1:D.fault A=0
  ·obtain ⟨_,c2,c3⟩:=Dk.gD c1
   rw [if_pos c1] at he ⊢
   rw [if_neg (by omega)] at he ⊢
   rw [he];exact ⟨rfl,rfl⟩
  ·rw [if_neg c1] at he ⊢
   refine ⟨?_,rfl⟩
   rw [he];simpa using c1
 have bad : ∀ X:Nat→Value,X 0=aq n→X 1=v→X 5=ptr d 0→X 9=aq i→X 15 = .int .i64 0→X 7=y 7→(D.write A data).2=D →
   ∃ y' g',dD (iter (aI Try.prog C (partOf Try.f4 [1,1,1,1,1,1,0,1,0,0,1,0,0,1,1,1,1,1,1,1,1,0,0])) rounds (aY 135 X) g) (fun e h=>some (Ex.ret,e,h)) (b4_38 C)=some (.normal,aY 135 y',g')∧RB h0 N d bb n v y' g' (i+1):=by
  intro X x0 x1 x5 x9 x15 x7 hw
  rw [hw] at dk
  exact fin dk hDn hDb hdown harm (by rw [x7];exact hL) hv x0 x1 x5 x9 x15 gn0 gnext gold
 have bn4 : ∀ a b:Bool,bin Try.prog .neq 4 (.bool a) (.bool b)=some (.bool (a != b)):=bin4n
 unfold t4k4_27
 simp -implicitDefEqProofs only [bM,ax,Nat.zero_add,l1,af,aj,eR,ay,y0,bX,bin28e]
 by_cases c1:A≥0
 ·simp -implicitDefEqProofs only [c1,decide_true,beq_self_eq_true,aA,af,aj,l1,bT,if_true,ay]
  by_cases c2:A<(n:Int)
  ·simp -implicitDefEqProofs only [c2,decide_true,beq_self_eq_true,aA,af,aj,l4,bO,eU,if_true,ay]
   by_cases c3:dn=128
   ·subst c3
    have hgood:D.write A data=(0,D.lay A data):=by
     unfold Dk.write
     have c0:D.fault A=0:=by
      unfold Dk.fault
      rw [hdown,hDn,if_neg (by simp),if_neg (by omega)]
     rw [if_pos c0,if_pos hdlen,harm,if_neg (by simp)]
    rw [hgood] at dk he
    have he0:(e==0)=true:=by rw [he];rfl
    obtain ⟨An,rfl⟩ : ∃ An:Nat,A=An:=⟨A.toNat,by omega⟩
    have hAn:An<n:=by omega
    have l1' : ∀ G:ah,(∀ b,b<g.next→G.get b=g.get b)→ba (ptr O 1) G=some (.int .i64 (An:Int),G):=fun G hG=>aN (by rw [hG O (g.aR hO)];exact hO) rfl
    have hE0:g.n0≤g.next:=g.aH
    have gal : ∀ b,b<g.next→(g.alloc []).get b=g.get b:=fun b hb=>by rw [ah.aE,if_neg (by omega)]
    have hdata2:av da 128 (g.alloc [])=some data:=fG hdata (fun b k hk=>ah.di hk _)
    obtain ⟨B,s,c',g1,a1,a2,a3,a4,a5,a6,a7⟩:=append_fresh (g:=g.alloc []) (E:=g.next) (c:=dc) hE0 hdata2 (by omega)
    have hBge:g.next≤B:=by
     rcases a4 with h|h
     ·omega
     ·rw [h,ah.aS];omega
    have g1get : ∀ b,b<g.next→g1.get b=g.get b:=fun b hb=>(a7 b (by simp;omega)).trans (gal b hb)
    have hL1:Last g1 N d bb n (y 7) vals L sp rows:=hL.move (a5.trans rfl) (fun b hb _ _=>g1get b hb)
    have hdlt:d<g.next:=dk.lt
    have hblt:bb<g.next:=by have:=dk.blt;rw [show (D.lay (An:Int) data).bb=bb from hDb] at this;exact this
    obtain ⟨st,hL2⟩:=hL1.set (c:=c') hAn a2 (by omega) (by omega) (by omega)
    have hix:cd 1 (.slice (some ⟨L,0,sp⟩) n n) (.int .i64 (An:Int))=some (ptr L An):=by
     unfold cd
     simp only
     rw [if_pos (by omega),Int.toNat_natCast,Nat.zero_add,Nat.mul_one]
    have hchk:cE true (ba (ptr O 1) g1) (.int .i64 (An:Int))=true:=by
     rw [l1' g1 g1get]
     unfold cE same
     simp [veq]
    have hL0:g1.n0≤L:=Nat.le_trans hL1.n0 hL1.NL
    have g2get : ∀ b,b≠L→(g1.set L (rows.set An (.slice (some ⟨B,0,s⟩) 128 c'))).get b=g1.get b:=fun b hb=>ah.bE hL0 (g1.aR hL1.get) _ hb
    have hlayb:(D.lay (An:Int) data).bb=bb:=hDb
    simp -implicitDefEqProofs only [show ((128:Nat):Int)=128 from rfl,beq_self_eq_true,he0,bn4,bne_self_eq_false,af,aj,ax,Nat.zero_add,l1,l4,bsl_bytes,a1,hL.v,hix,st,hchk,Bool.and_true]
    refine fin (E:=D.lay (An:Int) data) (dk.mono (a5.trans rfl) ?_ ?_) hDn hDb hdown harm (vals':=vals.set An data) (L':=L) (sp':=sp) (rows':=rows.set An (.slice (some ⟨B,0,s⟩) 128 c')) ?_ ?_ ?_ ?_ ?_ ?_ ?_ ?_ ?_ ?_
    ·rw [g2get d (fun h=>hL.Ld h.symm),g1get d hdlt]
    ·rw [hlayb,g2get bb (fun h=>hL.Lb h.symm),g1get bb hblt]
    ·simp only [aM,aV,Nat.reduceEqDiff,if_false];exact hL2
    ·intro j hj
     rw [read_lay dk00 (by rw [hDn];exact hAn) (by rw [hDn];exact hj) hdlen,List.getD_eq_getElem?_getD,List.getElem?_set]
     by_cases ej:An=j
     ·subst ej;rw [if_pos rfl,if_pos (by rw [hL.vlen];exact hAn),if_pos rfl];rfl
     ·rw [if_neg ej,if_neg (fun h=>ej h.symm),←hv j hj,List.getD_eq_getElem?_getD]
    ·simp only [aM,aV,Nat.reduceEqDiff,if_false,y0]
    ·simp only [aM,aV,Nat.reduceEqDiff,if_false,y1]
    ·simp only [aM,aV,Nat.reduceEqDiff,if_false,y5]
    ·simp only [aM,aV,Nat.reduceEqDiff,if_false,y9]
    ·simp only [aM,aV,Nat.reduceEqDiff,if_false,if_true]
    ·exact a5.trans gn0
    ·show N≤g1.next
     have:g.next+1≤g1.next:=a6
     omega
    ·intro b hb
     have hNL:=hL.NL
     rw [g2get b (by omega),g1get b (by omega)];exact gold b hb
   ·obtain ⟨b1,b2⟩:=hbad (by omega)
    have c3':((dn:Int)==128)=false:=by
     have:(dn:Int)≠128:=by omega
     simpa using this
    simp -implicitDefEqProofs only [c3',b1,bn4,bne_self_eq_false,af]
    refine bad _ ?_ ?_ ?_ ?_ ?_ ?_ b2
    ·simp only [aM,aV,Nat.reduceEqDiff,if_false,y0]
    ·simp only [aM,aV,Nat.reduceEqDiff,if_false,y1]
    ·simp only [aM,aV,Nat.reduceEqDiff,if_false,y5]
    ·simp only [aM,aV,Nat.reduceEqDiff,if_false,y9]
    ·simp only [aM,aV,Nat.reduceEqDiff,if_false,if_true]
    ·simp only [aM,aV,Nat.reduceEqDiff,if_false]
  ·obtain ⟨b1,b2⟩:=hbad (by omega)
   simp -implicitDefEqProofs only [c2,decide_false,fs,aF,af,Bool.false_eq_true,if_false,b1,bn4,bne_self_eq_false,ay]
   refine bad _ ?_ ?_ ?_ ?_ ?_ ?_ b2
   ·simp only [aM,aV,Nat.reduceEqDiff,if_false,y0]
   ·simp only [aM,aV,Nat.reduceEqDiff,if_false,y1]
   ·simp only [aM,aV,Nat.reduceEqDiff,if_false,y5]
   ·simp only [aM,aV,Nat.reduceEqDiff,if_false,y9]
   ·simp only [aM,aV,Nat.reduceEqDiff,if_false,if_true]
   ·simp only [aM,aV,Nat.reduceEqDiff,if_false]
 ·obtain ⟨b1,b2⟩:=hbad (by omega)
  simp -implicitDefEqProofs only [c1,decide_false,fs,aF,af,Bool.false_eq_true,if_false,b1,bn4,bne_self_eq_false,ay]
  refine bad _ ?_ ?_ ?_ ?_ ?_ ?_ b2
  ·simp only [aM,aV,Nat.reduceEqDiff,if_false,y0]
  ·simp only [aM,aV,Nat.reduceEqDiff,if_false,y1]
  ·simp only [aM,aV,Nat.reduceEqDiff,if_false,y5]
  ·simp only [aM,aV,Nat.reduceEqDiff,if_false,y9]
  ·simp only [aM,aV,Nat.reduceEqDiff,if_false,if_true]
  ·simp only [aM,aV,Nat.reduceEqDiff,if_false]
end
end Go.Proofs.Ytcmfgmhadeeieaa

namespace Go.Proofs.Ytcmfgmhadeeieaa
open Go Go.Abs
theorem OpV.cells {h:ah} {k:dW} {o:Nat} {op:OpD} (x:OpV h k o op) : ∃ da dn dc rv,(k.drop o).take 6 = [.int .i64 op.kind,.int .i64 op.A,.int .i64 op.B,u8 op.mask,.slice da dn dc,rv]∧o+6≤k.length ∧
  cN ((k.drop o).take 6)=true∧bK [.int .i64 op.kind,.int .i64 op.A,.int .i64 op.B,u8 op.mask,.slice da dn dc,rv]=true∧av da dn h=some op.data∧dn=op.data.length:=by
 obtain ⟨dv,d1,d2,da,dn,dc,rfl,d3,d4⟩:=x.data
 obtain ⟨rv,r1,r2,ra,rn,rc,rfl,r3,r4,r5⟩:=x.aT
 have hlen:o+6≤k.length:=by
  have:=(List.getElem?_eq_some_iff.1 r1).1;omega
 have hc:(k.drop o).take 6 = [.int .i64 op.kind,.int .i64 op.A,.int .i64 op.B,u8 op.mask,.slice da dn dc,.slice ra rn rc]:=by
  apply List.ext_getElem?
  intro i
  rw [List.getElem?_take,List.getElem?_drop]
  by_cases hi:i<6
  ·rw [if_pos hi]
   match i,hi with
   | 0,_=>exact x.kind
   | 1,_=>exact x.A
   | 2,_=>exact x.B
   | 3,_=>exact x.mask
   | 4,_=>exact d1
   | 5,_=>exact r1
  ·rw [if_neg hi,List.getElem?_eq_none (by simp;omega)]
 refine ⟨da,dn,dc,_,hc,hlen,by rw [hc];rfl,rfl,d3,(aw d3).1.symm⟩
section
variable (C:al) (H14 : ∀ args h,C 14 args h=s14 args h) (H17 : ∀ args h,C 17 args h=s17 args h) (H18 : ∀ args h,C 18 args h=s18 args h) (H19 : ∀ args h,C 19 args h=s19 args h) (H20 : ∀ args h,C 20 args h=s20 args h)
include H19 H20
theorem rb_round {h0:ah} {d bb n i m c:Nat} {v:Value} {a:Option Addr} {y:Nat→Value} {g:ah} {ops:List OpD} (R:RB h0 h0.next d bb n v y g i) (dN:h0.next≤d) (bN:h0.next≤bb) (hn:n≤4096) (hm:m≤100) (hi:i<m) (hv:v = .slice a m c)
  (hat : ∃ b off s k,a=some ⟨b,off,s⟩∧h0.get b=some k ∧ ∃ op,ops[i]? = some op∧OpV h0 k (off+i*6) op) (hlight : ∀ op,ops[i]? = some op→op.data.length≤21000) :
  ∃ y' g',gC C y g=some (.normal,aY 135 y',g')∧RB h0 h0.next d bb n v y' g' (i+1):=by
 obtain ⟨y0,y1,y5,y9,⟨D,dk,hDn,hDb,hdown,harm,vals,L,sp,rows,hL,hvals⟩,gn,gx,go⟩:=R
 obtain ⟨b0,off,s0,k,rfl,hk,op,hop,opv⟩:=hat
 obtain ⟨da,dn,dc,rv,hcells,hroom,hnh,hone,hdata,hdn⟩:=opv.cells
 have hlen:=hlight op hop
 have hb0:b0<h0.next:=h0.aR hk
 have hkg:g.get b0=some k:=by rw [go b0 hb0];exact hk
 have hix:cd 6 (.slice (some ⟨b0,off,s0⟩) m c) (aq i)=some (ptr b0 (off+i*6)):=by
  unfold cd
  simp only [aq]
  rw [if_pos (by omega),Int.toNat_natCast]
 have hld6:ch 6 (ptr b0 (off+i*6)) g=some (.agg [.int .i64 op.kind,.int .i64 op.A,.int .i64 op.B,u8 op.mask,.slice da dn dc,rv].toArray,g):=by
  rw [ldN_at hkg hroom hnh,hcells]
 have hst6:=stN_all (h:=g) (k := [.int .i64 0,.int .i64 0,.int .i64 0,.int .u8 0,.slice none 0 0,.slice none 0 0]) (k' := [.int .i64 op.kind,.int .i64 op.A,.int .i64 op.B,u8 op.mask,.slice da dn dc,rv]) rfl hone
 have hdlt:d<g.next:=dk.lt
 have hblt:bb<g.next:=by rw [←hDb];exact dk.blt
 have hz6:(g.alloc [.int .i64 0,.int .i64 0,.int .i64 0,.int .u8 0,.slice none 0 0,.slice none 0 0]).get g.next=some [.int .i64 0,.int .i64 0,.int .i64 0,.int .u8 0,.slice none 0 0,.slice none 0 0]:=by rw [ah.aE,if_pos rfl]
 have G2O:((g.alloc [.int .i64 0,.int .i64 0,.int .i64 0,.int .u8 0,.slice none 0 0,.slice none 0 0]).set g.next [.int .i64 op.kind,.int .i64 op.A,.int .i64 op.B,u8 op.mask,.slice da dn dc,rv]).get g.next=some [.int .i64 op.kind,.int .i64 op.A,.int .i64 op.B,u8 op.mask,.slice da dn dc,rv]:=
  ah.bI (h:=g.alloc _) (show (g.alloc _).n0≤g.next from g.aH) hz6 _
 have G2get : ∀ b,b<g.next→((g.alloc [.int .i64 0,.int .i64 0,.int .i64 0,.int .u8 0,.slice none 0 0,.slice none 0 0]).set g.next [.int .i64 op.kind,.int .i64 op.A,.int .i64 op.B,u8 op.mask,.slice da dn dc,rv]).get b=g.get b:=by
  intro b hb
  rw [ah.bE (show (g.alloc _).n0≤g.next from g.aH) (by simp) _ (by omega),ah.aE,if_neg (by omega)]
 have G2n:((g.alloc [.int .i64 0,.int .i64 0,.int .i64 0,.int .u8 0,.slice none 0 0,.slice none 0 0]).set g.next [.int .i64 op.kind,.int .i64 op.A,.int .i64 op.B,u8 op.mask,.slice da dn dc,rv]).next=g.next+1:=rfl
 have G20:((g.alloc [.int .i64 0,.int .i64 0,.int .i64 0,.int .u8 0,.slice none 0 0,.slice none 0 0]).set g.next [.int .i64 op.kind,.int .i64 op.A,.int .i64 op.B,u8 op.mask,.slice da dn dc,rv]).n0=g.n0:=rfl
 have hst6':cf 6 (ptr g.next 0) (.agg [.int .i64 op.kind,.int .i64 op.A,.int .i64 op.B,u8 op.mask,.slice da dn dc,rv].toArray) (g.alloc [.int .i64 0,.int .i64 0,.int .i64 0,.int .u8 0,.slice none 0 0,.slice none 0 0])=some (undef,(g.alloc [.int .i64 0,.int .i64 0,.int .i64 0,.int .u8 0,.slice none 0 0,.slice none 0 0]).set g.next [.int .i64 op.kind,.int .i64 op.A,.int .i64 op.B,u8 op.mask,.slice da dn dc,rv]):=hst6
 generalize hG2:(g.alloc [.int .i64 0,.int .i64 0,.int .i64 0,.int .u8 0,.slice none 0 0,.slice none 0 0]).set g.next [.int .i64 op.kind,.int .i64 op.A,.int .i64 op.B,u8 op.mask,.slice da dn dc,rv]=G2 at *
 have G3get : ∀ b,b<G2.next→(G2.alloc []).get b=G2.get b:=fun b hb=>by rw [ah.aE,if_neg (by omega)]
 have G3O:(G2.alloc []).get g.next=some [.int .i64 op.kind,.int .i64 op.A,.int .i64 op.B,u8 op.mask,.slice da dn dc,rv]:=by rw [G3get _ (by omega)];exact G2O
 have oldmono : ∀ G:ah,(∀ b,b<h0.next→G.get b=h0.get b)→av da dn G=some op.data:=fun G hG=>fG hdata (fun b k hk=>by rw [hG b (h0.aR hk)];exact hk)
 have hd3:=oldmono (G2.alloc []) (fun b hb=>by rw [G3get b (by omega),G2get b (by omega)];exact go b hb)
 obtain ⟨B,s,c',G4,a1,a2,a3,a4,a5,a6,a7⟩:=append_fresh (g:=G2.alloc []) (E:=G2.next) (c:=dc) (show (G2.alloc []).n0≤G2.next from G2.aH) hd3 (by omega)
 have hBge:G2.next≤B:=by
  rcases a4 with h|h
  ·omega
  ·rw [h,ah.aS];omega
 have G4get : ∀ b,b<g.next→G4.get b=g.get b:=fun b hb=>by rw [a7 b (by rw [ah.aS];omega),G3get b (by omega),G2get b hb]
 have G4O:G4.get g.next=some [.int .i64 op.kind,.int .i64 op.A,.int .i64 op.B,u8 op.mask,.slice da dn dc,rv]:=by rw [a7 _ (by rw [ah.aS];omega)];exact G3O
 have a5':G4.n0=g.n0:=a5.trans G20
 have dk4:bf G4 d D:=dk.mono a5' (G4get d hdlt) (by rw [hDb];exact G4get bb hblt)
 have hw:=s19_at (c:=c') dk4 op.A a2 a3
 have okd:=Dk.write_okd dk4 op.A (aw hdata).2.1
 have dk5:=dk4.put okd
 have get5:=gI (E:=(D.write op.A op.data).2) dk4 okd.bb
 have hEb:(D.write op.A op.data).2.bb=bb:=okd.bb.trans hDb
 have G5get : ∀ b,b≠d→b≠bb→(dh G4 d (D.write op.A op.data).2).get b=G4.get b:=fun b h1 h2=>by rw [get5,if_neg (by rw [hEb];exact h2),if_neg h1]
 have hin5:av (some ⟨B,0,s⟩) dn (dh G4 d (D.write op.A op.data).2)=some op.data:=by
  rw [dt (h:=G4) (fun z hz=>by cases hz;exact G5get B (by omega) (by omega))];exact a2
 have ld4:ba (ptr g.next 4) (G2.alloc [])=some (.slice da dn dc,G2.alloc []):=aN G3O rfl
 have ld1':ba (ptr g.next 1) G4=some (.int .i64 op.A,G4):=aN G4O rfl
 have n5:(dh G4 d (D.write op.A op.data).2).next=G4.next:=rfl
 have o5:(dh G4 d (D.write op.A op.data).2).n0=G4.n0:=rfl
 have hlt:(i:Int)<(m:Int):=by omega
 have g3n:(G2.alloc []).next=g.next+2:=by rw [ah.aS,G2n]
 generalize hG5:dh G4 d (D.write op.A op.data).2=G5 at *
 unfold gC
 simp -implicitDefEqProofs only [y9,y1,hv,af,aj,bO,bT,decide_eq_true hlt,hix,hld6,dB,Abs.newRow,hst6',bsl_bytes,ax,Nat.zero_add,ld4,a1,y5,ld1',H19,hw]
 refine cn (Q:=fun o:Option (Ex×Env×ah) => ∃ y' g',o=some (Ex.normal,aY 135 y',g')∧RB h0 h0.next d bb n (.slice (some ⟨b0,off,s0⟩) m c) y' g' (i+1))
  (rb_flip C _ G5 (some ⟨B,0,s⟩) dn c' op.data (by omega) hin5 (fun z hz=>by cases hz;show G5.n0≤B;have:=g.aH;omega) ?_ ?_) ?_
 ·simp only [aM,aV,Nat.reduceEqDiff,if_false,if_true]
 ·simp only [aM,aV,Nat.reduceEqDiff,if_false,if_true]
 rintro ex z G6 ⟨rfl,z0,z1,z5,z7,z9,z10,z12,zn,zx,zo⟩
 simp only [aM,aV,Nat.reduceEqDiff,if_false,if_true] at z0 z1 z5 z7 z9 z10 z12
 have G6get : ∀ b,b≠B→G6.get b=G5.get b:=fun b hb=>zo b (fun w hw=>by cases hw;exact hb)
 have G6old : ∀ b,b<h0.next→G6.get b=h0.get b:=fun b hb=>by rw [G6get b (by omega),G5get b (by omega) (by omega),G4get b (by omega)];exact go b hb
 have hOd:g.next≠d:=by omega
 have hOb:g.next≠bb:=by omega
 rw [bA]
 simp -implicitDefEqProofs only [b4_29,if_true,t4k4_27_eq]
 refine rb_tail C H20 (D:=D) (A:=op.A) (data:=op.data) (O:=g.next) (da:=da) (dn:=dn) (dc:=dc) (rv:=rv) (vals:=vals) (sp:=sp) (rows:=rows) (L:=L) (e:=(D.write op.A op.data).1) dN bN h0.aH hn (z0.trans y0) (z1.trans (y1.trans hv)) (z5.trans y5) (z9.trans y9) (by omega) z10 z12
  (kd := .int .i64 op.kind) (kb := .int .i64 op.B) (km:=u8 op.mask) ?_ (oldmono G6 G6old) (by omega) D ?_ ?_ G6old ?_ g dk hDn hDb hdown harm rfl ?_ hvals
 ·rw [G6get _ (by omega),G5get _ hOd hOb];exact G4O
 ·rw [zn,o5,a5'];exact gn
 ·rw [zx,n5];omega
 ·exact dk5.mono (zn.trans rfl) (G6get d (by omega)) (by rw [hEb];exact G6get bb (by omega))
 ·rw [z7]
  exact hL.move (by rw [zn,o5,a5']) (fun b hb h1 h2=>by rw [G6get b (by omega),G5get b h1 h2];exact G4get b hb)
end
end Go.Proofs.Ytcmfgmhadeeieaa

namespace Go.Proofs.Ytcmfgmhadeeieaa
open Go Go.Abs
section
variable (C:al) (H14 : ∀ args h,C 14 args h=s14 args h) (H17 : ∀ args h,C 17 args h=s17 args h) (H18 : ∀ args h,C 18 args h=s18 args h) (H19 : ∀ args h,C 19 args h=s19 args h) (H20 : ∀ args h,C 20 args h=s20 args h)
include H19 H20
theorem rb_loop {h0:ah} {d bb n m c:Nat} {v:Value} {a:Option Addr} {x:Nat→Value} {h:ah} {ops:List OpD} (R:RB h0 h0.next d bb n v x h 0) (dN:h0.next≤d) (bN:h0.next≤bb) (hn:n≤4096) (hm:m≤100) (hv:v = .slice a m c)
  (hat : ∀ i,i<m → ∃ b off s k,a=some ⟨b,off,s⟩∧h0.get b=some k ∧ ∃ op,ops[i]? = some op∧OpV h0 k (off+i*6) op) (hlight : ∀ op,op∈ops→op.data.length≤21000) :
  Fin 135 (fun ex _y g=>ex = .exit 2 ∧ ∀ b,b<h0.next→g.get b=h0.get b) (iter (aI Try.prog C (partOf Try.f4 [1,1,1,1,1,1,0,1,0,0])) rounds (aY 135 x) h):=by
 have hrm:m<rounds:=by
  have h1:rounds=18446744073709551616:=rfl
  omega
 refine cg (t4l4_111111010_eq C) (Inv:=fun q y g=>q≤m∧RB h0 h0.next d bb n v y g (m-q)) ?_ m hrm ⟨Nat.le_refl _,by rw [Nat.sub_self];exact R⟩
 rintro q y g ⟨hq,S⟩
 by_cases hz:q=0
 ·subst hz
  unfold gC
  simp -implicitDefEqProofs only [S.y9,S.y1,hv,af,aj,bO,bT,Nat.sub_zero,Int.lt_irrefl,decide_false]
  exact cY.out 2 ⟨rfl,S.bJ⟩
 ·obtain ⟨y',g',r1,r2⟩:=rb_round C H19 H20 S dN bN hn hm (by omega) hv (hat (m-q) (by omega)) (fun op hop=>hlight op (List.mem_of_getElem? hop))
  rw [r1]
  have e1:m-(q-1)=m-q+1:=by omega
  exact cY.next (q-1) (by omega) ⟨by omega,by rw [e1];exact r2⟩
include H14 H17 H18
theorem t4_is (b:Int) {v:Value} {h:ah} {ops:List OpD} (ho:iC h v ops) : ∃ g,t4 C (.int .i64 b) v h=some (.bool true,g) ∧ ∀ c k,h.get c=some k→g.get c=some k:=by
 have h14 : ∀ q:ah,s14 [] q=some (.bool true,q):=fun _=>rfl
 have hxt0 : ∀ a b:Value,aD (.tuple #[a,b]) 0=some a:=fun _ _=>rfl
 have hxt1 : ∀ a b:Value,aD (.tuple #[a,b]) 1=some b:=fun _ _=>rfl
 have h17:=s17_at b ho
 unfold t4
 simp -implicitDefEqProofs only [af,H17,h17,ay]
 cases hhv:heavyB b ops with
 |true=>
  simp -implicitDefEqProofs only [sf,aF,af,if_true,ay,H14,h14]
  exact ⟨h,rfl,fun _ _ h=>h⟩
 |false=>
 simp -implicitDefEqProofs only [beq_self_eq_true,aA,af,aj,bT,Bool.false_eq_true,if_false,ay]
 by_cases c1:b<4
 ·simp -implicitDefEqProofs only [c1,decide_true,sf,aF,af,if_true,ay,H14,h14]
  exact ⟨h,rfl,fun _ _ h=>h⟩
 simp -implicitDefEqProofs only [c1,decide_false,beq_self_eq_true,aA,af,aj,dM,Bool.false_eq_true,if_false,ay]
 by_cases c2:b>4096
 ·simp -implicitDefEqProofs only [c2,decide_true,af,if_true,H14,h14]
  exact ⟨h,rfl,fun _ _ h=>h⟩
 obtain ⟨n,rfl⟩ : ∃ n:Nat,b=n:=⟨b.toNat,by omega⟩
 obtain ⟨a,len,c,rfl,hlen,hmx,hat⟩:=ho
 have hv2:=hhv
 unfold heavyB at hv2
 simp only [Bool.or_eq_false_iff,decide_eq_false_iff_not] at hv2
 obtain ⟨⟨_,hm⟩,hany⟩:=hv2
 have hlight : ∀ op,op∈ops→op.data.length≤21000:=by
  intro op hop
  have:=List.any_eq_false.1 hany op hop
  unfold hY at this
  simp only [Bool.or_eq_true,not_or,decide_eq_true_eq] at this
  omega
 have hnew:=s18_at (h:=h) (n:=(n:Int)) ⟨by omega,by omega⟩
 rw [Int.toNat_natCast] at hnew
 have dk0:=new_is h (n:=n) (by omega)
 have old0 : ∀ c,c<h.next→(gR h n).get c=h.get c:=fun c hc=>(new_kept h n (fun _=>False)).get c hc (fun h=>h)
 have n0:(gR h n).next=h.next+2:=rfl
 have o0:(gR h n).n0=h.n0:=rfl
 simp -implicitDefEqProofs only [c2,decide_false,af,H18,hnew,hxt0,hxt1,aj,bin28n,show ((0:Int) != 0)=false from rfl,bsl_empty]
 generalize hG:gR h n=G at *
 have get1 : ∀ c,c<G.next→(G.alloc []).get c=G.get c:=fun c hc=>by rw [ah.aE,if_neg (by omega)]
 have hlast : ∃ L sp rows,Last (G.alloc []) h.next (h.next+1) h.next 0 (.slice (some ⟨G.next,0,none⟩) 0 0) [] L sp rows:=by
  refine ⟨G.next,none,[],rfl,.inl ⟨rfl,rfl⟩,by rw [ah.aE,if_pos rfl],rfl,rfl,by rw [ah.n0_alloc,o0];exact h.aH,by omega,by omega,by omega,rfl,fun j hj=>absurd hj (Nat.not_lt_zero j)⟩
 refine cn (Q:=fun o:Out => ∃ g,o=some (Value.bool true,g) ∧ ∀ c k,h.get c=some k→g.get c=some k)
  (rb_build C _ (G.alloc []) h.next (h.next+1) h.next n (by omega) (by rw [ah.aS];omega) (by rw [ah.aS];omega) (by omega) (Nat.le_refl _) (by rw [ah.aS];omega) rfl rfl hlast) ?_
 rintro ex y g ⟨rfl,y0,y1,y5,⟨L,sp,rows,hL⟩,gn,gx,go⟩
 have y1':y 1 = .slice a len c:=y1
 have y5':y 5=ptr (h.next+1) 0:=y5
 have hbb:(Dk.new h n).bb=h.next:=rfl
 have dkg:bf g (h.next+1) (Dk.new h n):=dk0.mono (gn.trans rfl) (by rw [go _ (.inr (.inl rfl)),get1 _ (by omega)]) (by rw [hbb,go _ (.inr (.inr rfl)),get1 _ (by omega)])
 have hread : ∀ j,j<n→(List.replicate n (List.replicate 128 0)).getD j []=(Dk.new h n).read (j:Int):=by
  intro j hj
  rw [List.getD_eq_getElem?_getD,List.getElem?_replicate,if_pos hj]
  show List.replicate 128 0=((List.replicate (128*n) 0).drop ((j:Int).toNat*128)).take 128
  rw [List.drop_replicate,List.take_replicate,Int.toNat_natCast,Nat.min_eq_left (by omega)]
 simp -implicitDefEqProofs only [bA,b4_11,if_true,t4k4_9_eq]
 unfold t4k4_9
 simp -implicitDefEqProofs only [af]
 have S:RB h h.next (h.next+1) h.next n (.slice a len c) (up y [(9,.int .i64 0)]) g 0:=by
  refine ⟨?_,?_,?_,rfl,⟨Dk.new h n,dkg,rfl,rfl,rfl,rfl,_,L,sp,rows,?_,hread⟩,?_,by have:(G.alloc []).next=G.next+1:=rfl;omega,?_⟩
  ·simp only [aM,aV,Nat.reduceEqDiff,if_false,y0]
  ·simp only [aM,aV,Nat.reduceEqDiff,if_false,y1']
  ·simp only [aM,aV,Nat.reduceEqDiff,if_false,y5']
  ·simp only [aM,aV,Nat.reduceEqDiff,if_false];exact hL
  ·rw [gn,ah.n0_alloc,o0]
  ·intro b hb
   rw [go b (.inl hb),get1 b (by omega)];exact old0 b hb
 refine cn (Q:=fun o:Out => ∃ g,o=some (Value.bool true,g) ∧ ∀ c k,h.get c=some k→g.get c=some k) (rb_loop C H19 H20 S (by omega) (Nat.le_refl _) (by omega) (by omega) rfl hat hlight) ?_
 rintro ex z g2 ⟨rfl,hold⟩
 simp -implicitDefEqProofs only [bA,b4_14,if_true,t4k4_12_eq]
 unfold t4k4_12
 simp -implicitDefEqProofs only [H14,h14,af]
 exact ⟨g2,rfl,fun c k hc=>by rw [hold c (h.aR hc)];exact hc⟩
end
noncomputable def s4:List Value→ah→Out
 | [.int .i64 _,v],h=>match opsOf h v with
   |some _=>some (.bool true,h)
   |none=>none
 |_,_=>none
theorem is4:cA Try.prog 4 Try.f4:=⟨by kernel_rfl,by kernel_rfl,by kernel_rfl,by kernel_rfl⟩
noncomputable abbrev C4:al:=fe [(14,s14),(17,s17),(18,s18),(19,s19),(20,s20)]
theorem C4_sound:cj Try.prog C4:=cD _ (by
 intro p hp
 simp only [List.mem_cons,List.not_mem_nil,or_false] at hp
 rcases hp with rfl|rfl|rfl|rfl|rfl
 ·exact c14
 ·exact c17
 ·exact c18
 ·exact c19
 ·exact c20)
theorem c4:cq Try.prog 4 s4:=by
 have key : ∀ args h v h',s4 args h=some (v,h') → ∃ b x ops,args = [.int .i64 b,x]∧iC h x ops∧v = .bool true∧h'=h:=by
  intro args h v h' e
  unfold s4 at e
  split at e
  ·split at e
   ·cases e;exact ⟨_,_,_,rfl,opsOf_spec (by assumption),rfl,rfl⟩
   ·cases e
  ·cases e
 refine .quiet C4_sound mixed is4 ?_ ?_
 ·intro args h v h' e
  obtain ⟨b,x,ops,rfl,ho,rfl,rfl⟩:=key _ _ _ _ e
  exact ⟨rfl,fun _=>rfl⟩
 ·intro args h v h' e _ _
  obtain ⟨b,x,ops,rfl,ho,rfl,rfl⟩:=key _ _ _ _ e
  obtain ⟨g,h1,h2⟩:=t4_is C4 (fun _ _=>rfl) (fun _ _=>rfl) (fun _ _=>rfl) (fun _ _=>rfl) (fun _ _=>rfl) b ho
  exact ⟨g,(t4_eq _ _ _ _).trans h1,h2⟩
end Go.Proofs.Ytcmfgmhadeeieaa

namespace Go.Proofs.Ytcmfgmhadeeieaa
open Go Go.Abs
noncomputable abbrev XL:List (FuncId×(List Value→ah→Out)) := [(95,s95),(15,sCost),(16,sCost),(14,s14),(53,s53),(32,s32),(33,s33),(36,s36),(50,s50),(48,s48),(19,s19),(20,s20),(18,s18),(25,s25),(17,s17)]
noncomputable abbrev XX:al:=fe XL
theorem XX_sound:cj Try.prog XX:=cD _ (by
 intro p hp
 simp only [List.mem_cons,List.not_mem_nil,or_false] at hp
 rcases hp with rfl|rfl|rfl|rfl|rfl|rfl|rfl|rfl|rfl|rfl|rfl|rfl|rfl|rfl|rfl
 ·exact c95
 ·exact c15
 ·exact c16
 ·exact c14
 ·exact c53
 ·exact c32
 ·exact c33
 ·exact c36
 ·exact c50
 ·exact c48
 ·exact c19
 ·exact c20
 ·exact c18
 ·exact c25
 ·exact c17)
noncomputable def CD:al:=CC Try.prog XX
theorem globals0:Try.prog.globals.size=0:=by kernel_rfl
theorem aO {f:FuncId} {fn:Func} (i:cA Try.prog f fn) {args:List Value} {h:ah} {r:Value×ah} (hX:XX f args h=none) (e:bw Try.prog CD fn args h=some r):CD f args h=some r:=
 CC_body i (by rw [globals0];exact Nat.zero_le _) hX e
theorem eO {f:FuncId} {args:List Value} {h:ah} {r:Value×ah} (e:XX f args h=some r):CD f args h=some r:=CC_known e
abbrev Old (h h':ah):Prop:=Kept h h' (fun _=>False)
theorem Old.get {h h':ah} (o:Old h h') {b:Nat} {k:dW} (e:h.get b=some k):h'.get b=some k:=(Kept.get o b (h.aR e) (fun h=>h)).trans e
theorem Old.bytes {h h':ah} (o:Old h h') {a:Option Addr} {n:Nat} {l:List Nat} (e:av a n h=some l):av a n h'=some l:=fG e fun _ _=>o.get
theorem Old.dk {h h':ah} (o:Old h h') {d:Nat} {D:Dk} (x:bf h d D):bf h' d D:=x.mono o.n0 (Kept.get o d x.lt (fun h=>h)) (Kept.get o D.bb x.blt (fun h=>h))
theorem is107:cA Try.prog 107 Try.f107:=⟨by kernel_rfl,by kernel_rfl,by kernel_rfl,by kernel_rfl⟩
theorem eql32 (a:Option Addr) (n c:Nat):bin Try.prog .eql 32 (.slice a n c) (.slice none 0 0)=some (.bool a.isNone):=by
 cases a<;>kernel_rfl
theorem r107 {a:Option Addr} {n c:Nat} {l:List Nat} {h:ah} (hl:av a n h=some l) (hn:n≤21000) :
  ∃ a' c' h',CD 107 [.slice a n c] h=some (.slice a' n c',h')∧av a' n h'=some l∧cQ a' n c'=true∧Old h h'∧(∀ y,a'=some y→h.next≤y.block)∧(a'.isNone=a.isNone):=by
 cases a with
 |none=>
  have h0:n=0:=by
   obtain ⟨h1,_,h3⟩:=aw hl
   by_cases hz:n=0
   ·exact hz
   ·obtain ⟨_,_,_,_,h4,_⟩:=h3 (by omega);cases h4
  subst h0
  refine ⟨none,0,h,aO is107 rfl ((t107_eq _ _ _).trans ?_),hl,rfl,Kept.refl _ _,fun y hy=>by (cases hy),rfl⟩
  unfold t107
  simp -implicitDefEqProofs only [af,eql32,aj,Option.isNone_none]
 |some x=>
  have hl1:av (some x) n (h.alloc [])=some l:=fG hl fun _ _ hc=>ah.di hc _
  obtain ⟨b,s,c',g',e1,e2,e3,e4,e5,e6,e7⟩:=append_fresh (g:=h.alloc []) (E:=h.next) (c:=c) h.aH hl1 hn
  refine ⟨some ⟨b,0,s⟩,c',g',aO is107 rfl ((t107_eq _ _ _).trans ?_),e2,e3,(Kept.alloc h [] _).trans ⟨e5,e6,fun d hd _=>e7 d hd⟩,?_,rfl⟩
  ·unfold t107
   simp -implicitDefEqProofs only [af,eql32,aj,Option.isNone_some,bsl_bytes,e1]
  ·intro y hy
   cases hy
   rcases e4 with e4|e4
   ·show h.next≤b;omega
   ·have:(h.alloc []).next=h.next+1:=by simp
    show h.next≤b
    omega
theorem _root_.Go.Abs.Kept.bytes {h h':ah} {B:Nat→Prop} (k:Kept h h' B) {a:Option Addr} {n:Nat} {l:List Nat} (e:av a n h=some l) (hb : ∀ y,a=some y→0<n → ¬B y.block):av a n h'=some l:=by
 by_cases h0:n=0
 ·subst h0
  obtain ⟨hl,_,_⟩:=aw e
  have:l = []:=List.length_eq_zero_iff.1 hl
  subst this
  cases a with
  |none=>rfl
  |some x=>unfold av bW;simp;rfl
 ·obtain ⟨_,_,h3⟩:=aw e
  obtain ⟨b,off,s,c,rfl,hc,_⟩:=h3 (by omega)
  rw [dt (h:=h) (fun y hy=>by cases hy;exact k.get b (h.aR hc) (hb _ rfl (by omega)))]
  exact e
theorem _root_.Go.Abs.Kept.dk {h h':ah} {B:Nat→Prop} (k:Kept h h' B) {d:Nat} {D:Dk} (x:bf h d D) (h1 : ¬B d) (h2 : ¬B D.bb):bf h' d D:=x.mono k.n0 (k.get d x.lt h1) (k.get D.bb x.blt h2)
theorem _root_.Go.Abs.Kept.dp {h h':ah} {B:Nat→Prop} (o:Kept h h' B) {b:Nat} {k:dW} (e:h.get b=some k) (hb : ¬B b):h'.get b=some k:=(o.get b (h.aR e) hb).trans e
theorem bytes_apart {h:ah} {a:Option Addr} {n:Nat} {l:List Nat} (e:av a n h=some l) {r:Nat} {k:dW} (hk:h.get r=some k) (hv : ∀ v∈k,nat8 v=none) : ∀ y,a=some y→0<n→y.block≠r:=by
 intro y hy hn he
 obtain ⟨_,hb,h3⟩:=aw e
 obtain ⟨b,off,s,c,rfl,hc,hlen,hat⟩:=h3 hn
 cases hy
 have:b=r:=he
 subst this
 rw [hk] at hc
 cases hc
 have h4:=hat 0 hn
 have h5:=hv _ (List.mem_of_getElem? h4)
 have h6:l.getD 0 0<256:=by
  rw [List.getD_eq_getElem?_getD]
  cases hz:l[0]? with
  |none=>decide
  |some z=>exact hb z (List.mem_of_getElem? hz)
 have h7:nat8 (u8 (l.getD 0 0))=some (l.getD 0 0):=by
  show (if l.getD 0 0<256 then some (l.getD 0 0) else none)=some (l.getD 0 0)
  rw [if_pos h6]
 rw [h7] at h5;cases h5
structure IsR (h:ah) (r:Nat) (l:List Nat) (e:Int):Prop where
 ex : ∃ a n c,h.get r=some [.slice a n c,.int .i64 e]∧av a n h=some l∧cQ a n c=true
 n0:h.n0≤r
 len:l.length≤21000
theorem IsR.aC {h h':ah} {B:Nat→Prop} {r:Nat} {l:List Nat} {e:Int} (R:IsR h r l e) (k:Old h h'):IsR h' r l e:=by
 obtain ⟨a,n,c,h1,h2,h3⟩:=R.ex
 exact ⟨⟨a,n,c,k.dp h1 (fun h=>h),k.bytes h2,h3⟩,k.n0▸R.n0,R.len⟩
theorem is105:cA Try.prog 105 Try.f105:=⟨by kernel_rfl,by kernel_rfl,by kernel_rfl,by kernel_rfl⟩
theorem box_at (h:ah) (cs:List Value) (hc:bK cs=true):box (.agg cs.toArray) h=some (ptr h.next 0,h.alloc cs):=by
 have e:(Value.agg cs.toArray).cells=cs.toArray:=rfl
 unfold box
 rw [e,if_pos (by simpa using hc)]
 simp [Abs.newRow]
theorem r105 {a:Option Addr} {n c:Nat} {l:List Nat} {h:ah} (hl:av a n h=some l) (hn:n≤21000) :
  ∃ r h',CD 105 [.slice a n c] h=some (ptr r 0,h')∧IsR h' r l 0∧Old h h'∧h.next≤r:=by
 obtain ⟨a',c',h1,e1,e2,e3,e4,e5,_⟩:=r107 (c:=c) hl hn
 have hb:fU [(.slice none 0 0),(.int .i64 0)] [(0,1,.slice a' n c')]=some (.agg [.slice a' n c',.int .i64 0].toArray):=rfl
 refine ⟨h1.next,h1.alloc [.slice a' n c',.int .i64 0],aO is105 rfl ((t105_eq _ _ _).trans ?_),⟨⟨a',n,c',by rw [ah.aE,if_pos rfl],(Kept.alloc h1 _ (fun _=>False)).bytes e2 (fun _ _ _ h=>h),e3⟩,?_,?_⟩,e4.trans (Kept.alloc h1 _ _),e4.next⟩
 ·unfold t105
  simp -implicitDefEqProofs only [af,e1,hb,aj,box_at h1 [.slice a' n c',.int .i64 0] rfl]
 ·exact h1.aH
 ·rw [(aw hl).1];exact hn
theorem eql134 (b o:Nat):bin Try.prog .eql 134 (ptr b o) (.pointer none)=some (.bool false):=by kernel_rfl
theorem dG (a:Int):bin Try.prog .neq 28 (.int .i64 a) (.int .i64 0)=some (.bool (a != 0)):=bin_neq ..
theorem rd_apart (a:Option Addr) (n c:Nat) (e:Int) : ∀ v ∈ [Value.slice a n c,.int .i64 e],nat8 v=none:=by
 intro v hv
 simp only [List.mem_cons,List.not_mem_nil,or_false] at hv
 rcases hv with rfl|rfl<;>rfl
theorem is108:cA Try.prog 108 Try.f108:=⟨by kernel_rfl,by kernel_rfl,by kernel_rfl,by kernel_rfl⟩
theorem r108 {r:Nat} {l:List Nat} {h:ah} (R:IsR h r l 0) {n:Nat} (hn:n≤l.length) :
  ∃ a' c' h',CD 108 [ptr r 0,aq n] h=some (.slice a' n c',h')∧av a' n h'=some (l.take n)∧cQ a' n c'=true∧IsR h' r (l.drop n) 0∧Kept h h' (fun c=>c=r)∧h'.next=h.next:=by
 obtain ⟨a,m,c,h1,h2,h3⟩:=R.ex
 have hm:=(aw h2).1
 subst hm
 have l0:ba (ptr r 0) h=some (.slice a l.length c,h):=aN h1 rfl
 have l1:ba (ptr r 1) h=some (.int .i64 0,h):=aN h1 rfl
 obtain ⟨a1,c1,e1,e2,e3⟩:=dP (vl:=none) (vh:=some (aq n)) (lo:=0) (hi:=n) h3 h2 (by omega) hn (by simp only [bZ,aq];rw [if_pos (by have:=fH h3;omega)];rfl) rfl
 obtain ⟨a2,c2,f1,f2,f3⟩:=dP (vl:=some (aq n)) (vh:=none) (lo:=n) (hi:=l.length) h3 h2 hn (Nat.le_refl _) rfl (by simp only [bZ,aq];rw [if_pos (by omega)];rfl)
 have hst:cf 1 (ptr r 0) (.slice a2 (l.length-n) c2) h=some (undef,h.set r [.slice a2 (l.length-n) c2,.int .i64 0]):=dy h1 (by simp) R.n0 rfl rfl
 have kp:Kept h (h.set r [.slice a2 (l.length-n) c2,.int .i64 0]) (fun c=>c=r):=Kept.set R.n0 h1 (.inr rfl)
 have hap:=fun {a:Option Addr} {n:Nat} {l:List Nat} (e:av a n h=some l)=>bytes_apart e h1 (rd_apart _ _ _ _)
 rw [List.drop_zero,Nat.sub_zero] at e2
 rw [Nat.sub_zero] at e1 e3
 rw [List.take_of_length_le (by simp)] at f2
 refine ⟨a1,c1,h.set r [.slice a2 (l.length-n) c2,.int .i64 0],aO is108 rfl ((t108_eq _ _ _ _).trans ?_),kp.bytes e2 (hap e2),e3,⟨⟨a2,l.length-n,c2,ah.bI R.n0 h1 _,kp.bytes f2 (hap f2),f3⟩,R.n0,by have:=R.len;simp;omega⟩,kp,rfl⟩
 have g1 : ¬((n:Int)<0):=by omega
 have g2 : ¬((n:Int)>(l.length:Int)):=by omega
 unfold t108
 simp -implicitDefEqProofs only [af,eql134,aj,ay,beq_self_eq_true,aA,aJ,ax,Nat.zero_add,l1,dG,bne_self_eq_false,Bool.false_eq_true,if_false,aq,bT,g1,decide_false,l0,bO,dM,g2]
 rw [show (Value.int .i64 (n:Int))=aq n from rfl,e1]
 simp -implicitDefEqProofs only [af,aj,l0,f1,hst]
theorem r108_short {r:Nat} {l:List Nat} {h:ah} (R:IsR h r l 0) {n:Nat} (hn:l.length<n) :
  ∃ h',CD 108 [ptr r 0,aq n] h=some (.slice none 0 0,h')∧IsR h' r l 4∧Kept h h' (fun c=>c=r)∧h'.next=h.next:=by
 obtain ⟨a,m,c,h1,h2,h3⟩:=R.ex
 have hm:=(aw h2).1
 subst hm
 have l0:ba (ptr r 0) h=some (.slice a l.length c,h):=aN h1 rfl
 have l1:ba (ptr r 1) h=some (.int .i64 0,h):=aN h1 rfl
 have hst:cf 1 (ptr r 1) (.int .i64 4) h=some (undef,h.set r [.slice a l.length c,.int .i64 4]):=dy h1 (by simp) R.n0 rfl rfl
 have kp:Kept h (h.set r [.slice a l.length c,.int .i64 4]) (fun c=>c=r):=Kept.set R.n0 h1 (.inr rfl)
 refine ⟨h.set r [.slice a l.length c,.int .i64 4],aO is108 rfl ((t108_eq _ _ _ _).trans ?_),⟨⟨a,l.length,c,ah.bI R.n0 h1 _,kp.bytes h2 (bytes_apart h2 h1 (rd_apart _ _ _ _)),h3⟩,R.n0,R.len⟩,kp,rfl⟩
 have g1 : ¬((n:Int)<0):=by omega
 have g2:((n:Int)>(l.length:Int)):=by omega
 unfold t108
 simp -implicitDefEqProofs only [af,eql134,aj,ay,beq_self_eq_true,aA,aJ,ax,Nat.zero_add,l1,dG,bne_self_eq_false,Bool.false_eq_true,if_false,aq,bT,g1,decide_false,l0,bO,dM,g2,decide_true,hst]
def be (l:List Nat):Nat:=l.foldl (fun v x=>v*256+x) 0
theorem be_snoc (l:List Nat) (x:Nat):be (l ++ [x])=be l*256+x:=by simp [be]
theorem be_lt : ∀ (n:Nat) (l:List Nat),l.length=n→(∀ x∈l,x<256)→be l<256^n
 | 0,l,hl,_=>by
   have:l = []:=List.length_eq_zero_iff.1 hl
   subst this;decide
 |n+1,l,hl,hb=>by
  rcases List.eq_nil_or_concat l with h0|⟨m,x,h0⟩
  ·subst h0;cases hl
  ·rw [List.concat_eq_append] at h0
   subst h0
   have hm:m.length=n:=by simpa using hl
   have:=be_lt n m hm (fun y hy=>hb y (List.mem_append_left _ hy))
   have hx:=hb x (by simp)
   rw [be_snoc,Nat.pow_succ]
   omega
theorem is106:cA Try.prog 106 Try.f106:=⟨by kernel_rfl,by kernel_rfl,by kernel_rfl,by kernel_rfl⟩
theorem shl_or {v x:Nat} (hv:v<72057594037927936) (hx:x<256):bin Try.prog .shl 58 (.int .u64 (v:Int)) (.int .u64 8)=some (.int .u64 ((v*256:Nat):Int)) ∧
  bin Try.prog .or 58 (.int .u64 ((v*256:Nat):Int)) (.int .u64 (x:Int))=some (.int .u64 ((v*256+x:Nat):Int)):=by
 constructor
 ·rw [fg]
  have h2:min (8:Int).toNat (IntKind.bits .u64)=8:=by decide
  simp only [binI,show ¬((8:Int)<0) by decide,if_false,h2]
  have h3:(2:Int)^8=256:=by decide
  rw [h3,show (v:Int)*256=((v*256:Nat):Int) by omega,eQ (by omega) (by omega)]
 ·rw [bin_or_nat Try.prog 58 (k := .u64) rfl (by show _<2^64;omega) (by show _<2^64;omega)]
  have:=Nat.two_pow_add_eq_or_of_lt (i:=8) (b:=x) (by omega) v
  rw [show v*256=2^8*v by omega,←this]
theorem r106 {r:Nat} {l:List Nat} {h:ah} (R:IsR h r l 0) {n:Nat} (hn:n≤l.length) (h8:n≤8) :
  ∃ h',CD 106 [ptr r 0,aq n] h=some (.int .u64 (be (l.take n)),h')∧IsR h' r (l.drop n) 0∧Kept h h' (fun c=>c=r)∧h'.next=h.next:=by
 obtain ⟨a,c,h1,e1,e2,e3,e4,e5,e6⟩:=r108 R hn
 refine ⟨h1,aO is106 rfl ((t106_eq _ _ _ _).trans ?_),e4,e5,e6⟩
 have hb : ∀ x∈l.take n,x<256:=(aw e2).2.1
 have hlen:(l.take n).length=n:=(aw e2).1
 unfold t106
 simp -implicitDefEqProofs only [af,e1,bO,aj]
 obtain ⟨ex,y,g,q1,q2⟩:=loop_inv (t106l106_11010_eq CD)
  (Inv:=fun k y g=>k≤n∧g=h1∧y 10 = .slice a n c∧y 11=aq n∧y 12=aq (n-k)∧y 5 = .int .u64 (be ((l.take n).take (n-k))))
  (fin:=fun ex y g=>ex = .exit 0∧g=h1∧y 5 = .int .u64 (be (l.take n)))
  (by
   rintro k y g ⟨hk,rfl,i10,i11,i12,i5⟩
   unfold t106l106_11010
   simp -implicitDefEqProofs only [i11,i12,aq,bT,aj,af]
   by_cases hz:k=0
   ·subst hz
    simp -implicitDefEqProofs only [Nat.sub_zero,Int.lt_irrefl,decide_false]
    refine ⟨_,_,_,rfl,.inr ⟨by simp,rfl,rfl,?_⟩⟩
    simp only [aM,aV,Nat.reduceEqDiff,if_false]
    rw [i5,Nat.sub_zero,List.take_of_length_le (by omega)]
   ·have hlt:((n-k:Nat):Int)<(n:Int):=by omega
    obtain ⟨b,off,s,kb,hx,hkb,hoff,hat⟩:=(aw e2).2.2 (by omega)
    subst hx
    have hidx:(0:Int)≤((n-k:Nat):Int)∧((n-k:Nat):Int)<(n:Int):=by omega
    have hV:=hat (n-k) (by omega)
    generalize hVd:(l.take n).getD (n-k) 0=V at *
    have hV2:(l.take n)[n-k]? = some V:=by
     rw [←hVd,List.getD_eq_getElem?_getD,List.getElem?_eq_getElem (by omega)];rfl
    have hV256:V<256:=hb V (List.mem_of_getElem? hV2)
    have hbe:=be_lt (n-k) ((l.take n).take (n-k)) (by simp;omega) (fun x hx=>hb x (List.mem_of_mem_take hx))
    have hbe2:be ((l.take n).take (n-k))<72057594037927936:=Nat.lt_of_lt_of_le hbe (Nat.le_trans (Nat.pow_le_pow_right (by decide) (show n-k≤7 by omega)) (by decide))
    obtain ⟨b1,b2⟩:=shl_or hbe2 hV256
    have hw:IntKind.wrap .u64 (V:Int)=(V:Int):=eQ (by omega) (by omega)
    have hw2:IntKind.wrap .i64 (((n-k:Nat):Int)+1)=((n-(k-1):Nat):Int):=by rw [bD (by omega) (by omega)];omega
    simp -implicitDefEqProofs only [decide_eq_true hlt,i10,cd,hidx,and_self,if_true,Int.toNat_natCast,Nat.mul_one,aj,af,aN hkb hV,i5,b1,u8,dg,hw,b2,dL,hw2]
    refine ⟨_,_,_,rfl,.inl ⟨rfl,k-1,by omega,by omega,rfl,?_,?_,?_,?_⟩⟩
    ·simp only [aM,aV,Nat.reduceEqDiff,if_false,i10]
    ·simp only [aM,aV,Nat.reduceEqDiff,if_false,i11]
    ·simp only [aM,aV,Nat.reduceEqDiff,if_false,if_true]
    ·simp only [aM,aV,Nat.reduceEqDiff,if_false,if_true]
     rw [show n-(k-1)=n-k+1 by omega,List.take_add_one,hV2]
     show _=Value.int .u64 ((be ((l.take n).take (n-k) ++ [V]):Nat):Int)
     rw [be_snoc])
  (k:=n) (by have:rounds=18446744073709551616:=rfl;omega)
  (x:=up (bs [ptr r 0,aq n]) [(4,.int .u64 0),(5,.int .u64 0),(8,ptr r 0),(9,aq n),(10,.slice a n c),(11,aq n),(12,.int .i64 0)]) (h:=h1)
  ⟨Nat.le_refl _,rfl,rfl,rfl,by rw [Nat.sub_self];rfl,by rw [Nat.sub_self];rfl⟩
 obtain ⟨rfl,rfl,q3⟩:=q2
 rw [show (Value.int .i64 (n:Int))=aq n from rfl,q1]
 simp -implicitDefEqProofs only [bA,b106_4,if_true,t106k106_2_eq]
 unfold t106k106_2
 simp -implicitDefEqProofs only [q3,af]
end Go.Proofs.Ytcmfgmhadeeieaa

namespace Go.Proofs.Ytcmfgmhadeeieaa
open Go Go.Abs
theorem IsR.byte {h:ah} {r:Nat} {l:List Nat} {e:Int} (R:IsR h r l e) : ∀ x∈l,x<256:=by
 obtain ⟨a,n,c,_,h2,_⟩:=R.ex
 exact (aw h2).2.1
theorem IsR.lt {h:ah} {r:Nat} {l:List Nat} {e:Int} (R:IsR h r l e):r<h.next:=by
 obtain ⟨a,n,c,h1,_,_⟩:=R.ex
 exact h.aR h1
theorem _root_.Go.Abs.Kept.bS {a b c:ah} {B B':Nat→Prop} (x:Kept a b B) (y:Kept b c B') (hB : ∀ d,d<a.next→B' d→B d):Kept a c B:=
 ⟨y.n0.trans x.n0,Nat.le_trans x.next y.next,fun d hd hb=>(y.get d (Nat.lt_of_lt_of_le hd x.next) (fun h=>hb (hB d hd h))).trans (x.get d hd hb)⟩
theorem be_take_lt {l:List Nat} (hb : ∀ x∈l,x<256) {n:Nat} (hn:n≤l.length):be (l.take n)<256^n:=be_lt n _ (by simp;omega) fun x hx=>hb x (List.mem_of_mem_take hx)
theorem is85:cA Try.prog 85 Try.f85:=⟨by kernel_rfl,by kernel_rfl,by kernel_rfl,by kernel_rfl⟩
theorem is86:cA Try.prog 86 Try.f86:=⟨by kernel_rfl,by kernel_rfl,by kernel_rfl,by kernel_rfl⟩
theorem is87:cA Try.prog 87 Try.f87:=⟨by kernel_rfl,by kernel_rfl,by kernel_rfl,by kernel_rfl⟩
theorem is88:cA Try.prog 88 Try.f88:=⟨by kernel_rfl,by kernel_rfl,by kernel_rfl,by kernel_rfl⟩
theorem is89:cA Try.prog 89 Try.f89:=⟨by kernel_rfl,by kernel_rfl,by kernel_rfl,by kernel_rfl⟩
theorem is90:cA Try.prog 90 Try.f90:=⟨by kernel_rfl,by kernel_rfl,by kernel_rfl,by kernel_rfl⟩
structure RdOk (h:ah) (r:Nat) (l:List Nat) (n:Nat) (h':ah):Prop where
 rd:IsR h' r (l.drop n) 0
 kept:Kept h h' (fun c=>c=r)
 next:h'.next=h.next
section
variable {r:Nat} {l:List Nat} {h:ah} (R:IsR h r l 0)
include R
theorem r85 (hn:4≤l.length) : ∃ h',CD 85 [ptr r 0] h=some (.int .u32 (be (l.take 4)),h')∧RdOk h r l 4 h':=by
 obtain ⟨h1,e1,e2,e3,e4⟩:=r106 R hn (by decide)
 refine ⟨h1,aO is85 rfl ((t85_eq _ _ _).trans ?_),e2,e3,e4⟩
 have e1:CD 106 [ptr r 0,.int .i64 4] h=_:=e1
 have hb:=be_take_lt R.byte hn
 have hw:IntKind.wrap .u32 ((be (l.take 4):Nat):Int)=(be (l.take 4):Nat):=wrap_u32 (by omega) (by omega)
 unfold t85
 simp -implicitDefEqProofs only [af,e1,dg,hw]
theorem r86 (hn:8≤l.length) : ∃ h',CD 86 [ptr r 0] h=some (.int .u64 (be (l.take 8)),h')∧RdOk h r l 8 h':=by
 obtain ⟨h1,e1,e2,e3,e4⟩:=r106 R hn (by decide)
 refine ⟨h1,aO is86 rfl ((t86_eq _ _ _).trans ?_),e2,e3,e4⟩
 have e1:CD 106 [ptr r 0,.int .i64 8] h=_:=e1
 unfold t86
 simp -implicitDefEqProofs only [af,e1]
theorem r87 (hn:1≤l.length) : ∃ h',CD 87 [ptr r 0] h=some (.int .u8 (be (l.take 1)),h')∧RdOk h r l 1 h':=by
 obtain ⟨h1,e1,e2,e3,e4⟩:=r106 R hn (by decide)
 refine ⟨h1,aO is87 rfl ((t87_eq _ _ _).trans ?_),e2,e3,e4⟩
 have e1:CD 106 [ptr r 0,.int .i64 1] h=_:=e1
 have hb:=be_take_lt R.byte hn
 have hw:IntKind.wrap .u8 ((be (l.take 1):Nat):Int)=(be (l.take 1):Nat):=wrap_u8 (by omega) (by omega)
 unfold t87
 simp -implicitDefEqProofs only [af,e1,dg,hw]
theorem r88 (hn:2≤l.length) : ∃ h',CD 88 [ptr r 0] h=some (.int .u16 (be (l.take 2)),h')∧RdOk h r l 2 h':=by
 obtain ⟨h1,e1,e2,e3,e4⟩:=r106 R hn (by decide)
 refine ⟨h1,aO is88 rfl ((t88_eq _ _ _).trans ?_),e2,e3,e4⟩
 have e1:CD 106 [ptr r 0,.int .i64 2] h=_:=e1
 have hb:=be_take_lt R.byte hn
 have hw:IntKind.wrap .u16 ((be (l.take 2):Nat):Int)=(be (l.take 2):Nat):=wrap_u16 (by omega) (by omega)
 unfold t88
 simp -implicitDefEqProofs only [af,e1,dg,hw]
theorem r89 {n:Nat} (hn:n≤l.length) : ∃ a' c' h',CD 89 [ptr r 0,aq n] h=some (.slice a' n c',h')∧av a' n h'=some (l.take n)∧cQ a' n c'=true∧IsR h' r (l.drop n) 0∧Kept h h' (fun c=>c=r) ∧
  (∀ y,a'=some y→h.next≤y.block):=by
 obtain ⟨a,c,h1,e1,e2,e3,e4,e5,e6⟩:=r108 R hn
 obtain ⟨a',c',h2,f1,f2,f3,f4,f5,_⟩:=r107 (c:=c) e2 (by have:=R.len;omega)
 refine ⟨a',c',h2,aO is89 rfl ((t89_eq _ _ _ _).trans ?_),f2,f3,e4.aC (B:=fun _=>False) f4,e5.bS f4 (fun _ _ h=>h.elim),fun y hy=>e6▸f5 y hy⟩
 unfold t89
 simp -implicitDefEqProofs only [af,e1,f1]
theorem r89_short {n:Nat} (hn:l.length<n) : ∃ h',CD 89 [ptr r 0,aq n] h=some (.slice none 0 0,h')∧IsR h' r l 4∧Kept h h' (fun c=>c=r):=by
 obtain ⟨h1,e1,e2,e3,e4⟩:=r108_short R hn
 obtain ⟨a',c',h2,f1,f2,f3,f4,f5,f6⟩:=r107 (a:=none) (n:=0) (c:=0) (l := []) (h:=h1) rfl (by omega)
 have ha:a'=none:=by simpa using f6
 subst ha
 have f1':CD 107 [.slice none 0 0] h1=some (.slice none 0 0,h1):=by
  refine aO is107 rfl ((t107_eq _ _ _).trans ?_)
  unfold t107
  simp -implicitDefEqProofs only [af,eql32,aj,Option.isNone_none]
 refine ⟨h1,aO is89 rfl ((t89_eq _ _ _ _).trans ?_),e2,e3⟩
 unfold t89
 simp -implicitDefEqProofs only [af,e1,f1']
end
theorem r90 {r:Nat} {l:List Nat} {h:ah} {e:Int} (R:IsR h r l e):CD 90 [ptr r 0] h=some (.int .i64 e,h):=by
 obtain ⟨a,n,c,h1,_,_⟩:=R.ex
 have l1:ba (ptr r 1) h=some (.int .i64 e,h):=aN h1 rfl
 refine aO is90 rfl ((t90_eq _ _ _).trans ?_)
 unfold t90
 simp -implicitDefEqProofs only [af,eql134,aj,aJ,ax,Nat.zero_add,l1]
def Dk.aX (D:Dk) (i:Nat):List Nat:=(D.aW.drop (i*128)).take 128
theorem Dk.blk_length {h:ah} {d:Nat} {D:Dk} (x:bf h d D) {i:Nat} (hi:i<D.n):(D.aX i).length=128:=by
 have:=x.len
 simp only [Dk.aX,List.length_take,List.length_drop]
 omega
theorem Dk.blk_byte {h:ah} {d:Nat} {D:Dk} (x:bf h d D) (i:Nat) : ∀ y∈D.aX i,y<256:=fun y hy=>x.byte y (List.mem_of_mem_drop (List.mem_of_mem_take hy))
def right (b:List Nat):Bool:=be (b.take 4)==crcN (b.drop 4)
theorem int_beq (a b:Nat):((a:Int)==(b:Int))=(a==b):=by
 by_cases h:a=b
 ·subst h;rw [beq_self_eq_true,beq_self_eq_true]
 ·have h1 : ¬((a:Int)=(b:Int)):=by omega
  rw [beq_eq_false_iff_ne.2 h1,beq_eq_false_iff_ne.2 h]
theorem arr128_4 (b off:Nat):eh 128 1 (ptr b off) (some (.int .i64 4)) none none=some (.slice (some ⟨b,off+4,none⟩) 124 124):=rfl
theorem X95:XX 95=s95:=rfl
theorem is84:cA Try.prog 84 Try.f84:=⟨by kernel_rfl,by kernel_rfl,by kernel_rfl,by kernel_rfl⟩
theorem r84 {d:Nat} {D:Dk} {h:ah} (x:bf h d D) {i:Nat} (hi:i<D.n) :
  ∃ r h',CD 84 [ptr d 0,aq i] h=some (.tuple #[ptr r 0,.bool (right (D.aX i))],h')∧IsR h' r ((D.aX i).drop 4) 0∧Old h h'∧h.next≤r:=by
 have hb:av (some ⟨D.bb,i*128,none⟩) 128 h=some (D.aX i):=blockBytes x hi
 have hlen:=Dk.blk_length x hi
 obtain ⟨r,h1,e1,e2,e3,e4⟩:=r105 (c:=128) hb (by omega)
 obtain ⟨h2,f1,f2⟩:=r85 e2 (show 4≤(D.aX i).length by omega)
 have x2:bf h2 d D:=f2.kept.dk (e3.dk x) (by have:=x.lt;omega) (by have:=x.blt;omega)
 have hix:cd 128 (.slice (some ⟨D.bb,0,none⟩) D.n D.n) (aq i)=some (ptr D.bb (i*128)):=by
  unfold cd
  simp only [aq]
  rw [if_pos (by omega),Int.toNat_natCast,Nat.zero_add]
 have hs:av (some ⟨D.bb,i*128+4,none⟩) 124 h2=some ((D.aX i).drop 4):=by
  have:=sliceBytes_sub (s':=none) (blockBytes x2 hi) (lo:=4) (hi:=128) (by decide) (by decide)
  rw [this]
  exact congrArg some (List.take_of_length_le (by simp only [List.length_drop];unfold Dk.aX at hlen;omega))
 have hc:CD 95 [.slice (some ⟨D.bb,i*128+4,none⟩) 124 124] h2=some (u32 (crcN ((D.aX i).drop 4)),h2):=by
  refine eO ?_
  rw [X95]
  unfold s95
  simp only [hs]
  rfl
 refine ⟨r,h2,aO is84 rfl ((t84_eq _ _ _ _).trans ?_),f2.rd,e3.bS f2.kept (fun c h1 h2=>by omega),e4⟩
 unfold t84
 simp -implicitDefEqProofs only [af,aj,aJ,ax,Nat.zero_add,x.l0,hix,arr128,e1,f1,x2.l0,arr128_4,hc,u32,eU,int_beq,right]
def bc (b:List Nat):Nat:=be ((b.drop 8).take 8)
def cW (b:List Nat):Nat:=be ((b.drop 16).take 1)
def bB (b:List Nat):Bool:=right b&&(be ((b.drop 4).take 4)==1398034252)&&decide (cW b≤1)
theorem is54:cA Try.prog 54 Try.f54:=⟨by kernel_rfl,by kernel_rfl,by kernel_rfl,by kernel_rfl⟩
theorem r54 {d:Nat} {D:Dk} {h:ah} (x:bf h d D) {i:Nat} (hi:i<D.n) :
  ∃ h',CD 54 [ptr d 0,aq i] h=some (.tuple #[.int .u64 (bc (D.aX i)),aq (cW (D.aX i)),.bool (bB (D.aX i))],h')∧Old h h':=by
 have hlen:=Dk.blk_length x hi
 have hbb:=Dk.blk_byte x i
 obtain ⟨r,h1,e1,R1,o1,g1⟩:=r84 x hi
 obtain ⟨h2,e2,R2⟩:=r85 R1 (by simp;omega)
 obtain ⟨h3,e3,R3⟩:=r86 R2.rd (by simp;omega)
 obtain ⟨h4,e4,R4⟩:=r87 R3.rd (by simp;omega)
 simp only [List.drop_drop,Nat.reduceAdd] at e2 e3 e4
 have ha:be (((D.aX i).drop 16).take 1)<256:=be_lt 1 _ (by simp;omega) fun y hy=>hbb y (List.mem_of_mem_drop (List.mem_of_mem_take hy))
 have hw:IntKind.wrap .i64 ((be (((D.aX i).drop 16).take 1):Nat):Int)=(be (((D.aX i).drop 16).take 1):Nat):=bD (by omega) (by omega)
 refine ⟨h4,aO is54 rfl ((t54_eq _ _ _ _).trans ?_),((o1.bS R2.kept (fun c h1 h2=>by omega)).bS R3.kept (fun c h1 h2=>by omega)).bS R4.kept (fun c h1 h2=>by omega)⟩
 have hx0 : ∀ a b:Value,aD (.tuple #[a,b]) 0=some a:=fun _ _=>rfl
 have hx1 : ∀ a b:Value,aD (.tuple #[a,b]) 1=some b:=fun _ _=>rfl
 have hm:((1398034252:Int))=((1398034252:Nat):Int):=rfl
 unfold t54 bB bc cW
 simp -implicitDefEqProofs only [af,e1,hx0,hx1,aj,e2,e3,e4,dg,hw,ay]
 cases right (D.aX i) with
 |false=>
  simp -implicitDefEqProofs only [fs,aF,af,Bool.false_eq_true,if_false,ay,Bool.false_and]
 |true=>
  simp -implicitDefEqProofs only [beq_self_eq_true,aA,af,aj,eU,if_true,ay,Bool.true_and,hm,int_beq]
  cases be (((D.aX i).drop 4).take 4)==1398034252 with
  |false=>simp -implicitDefEqProofs only [fs,aF,af,Bool.false_eq_true,if_false,Bool.false_and]
  |true=>
   simp -implicitDefEqProofs only [beq_self_eq_true,aA,af,aj,bin_leq,if_true,Bool.true_and,aq]
   have:decide (((be (((D.aX i).drop 16).take 1):Nat):Int)≤1)=decide (be (((D.aX i).drop 16).take 1)≤1):=decide_eq_decide.2 (by omega)
   rw [this]
def Dk.ar (D:Dk):Nat:=(D.n-2)/2
theorem is55:cA Try.prog 55 Try.f55:=⟨by kernel_rfl,by kernel_rfl,by kernel_rfl,by kernel_rfl⟩
theorem r55 {d:Nat} {D:Dk} {h:ah} (x:bf h d D) (h2:2≤D.n):CD 55 [ptr d 0] h=some (aq D.ar,h):=by
 refine aO is55 rfl ((t55_eq _ _ _).trans ?_)
 have hs:=x.small
 have w1:IntKind.wrap .i64 ((D.n:Int)-2)=((D.n-2:Nat):Int):=by rw [bD (by omega) (by omega)];omega
 have w2:IntKind.wrap .i64 (((D.n-2:Nat):Int).tdiv 2)=((D.ar:Nat):Int):=by
  have:((D.n-2:Nat):Int).tdiv 2=(((D.n-2)/2:Nat):Int):=by
   rw [Int.tdiv_eq_ediv_of_nonneg (by omega)];rfl
  rw [this,bD (by omega) (by omega)];rfl
 unfold t55
 simp -implicitDefEqProofs only [af,aj,aJ,ax,Nat.zero_add,x.l0,bO,gZ,w1,bin_quo _ _ _ _ _ (show (2:Int)≠0 by decide),w2]
end Go.Proofs.Ytcmfgmhadeeieaa

namespace Go.Proofs.Ytcmfgmhadeeieaa
open Go Go.Abs
def dq (h:ah) (b:Nat):Prop := ∃ k,h.get b=some k ∧ ∀ v∈k,nat8 v=none
theorem _root_.Go.Abs.Kept.ea {h h':ah} {B:Nat→Prop} (k:Kept h h' B) (hB : ∀ b,B b→dq h b) {a:Option Addr} {n:Nat} {l:List Nat} (e:av a n h=some l):av a n h'=some l:=
 k.bytes e fun y hy hn hb=>by
   obtain ⟨c,h1,h2⟩:=hB _ hb
   exact bytes_apart e h1 h2 y hy hn rfl
theorem IsR.move {h h':ah} {B:Nat→Prop} {r:Nat} {l:List Nat} {e:Int} (R:IsR h r l e) (k:Kept h h' B) (hr : ¬B r) (hB : ∀ b,B b→dq h b):IsR h' r l e:=by
 obtain ⟨a,n,c,h1,h2,h3⟩:=R.ex
 exact ⟨⟨a,n,c,k.dp h1 hr,k.ea hB h2,h3⟩,k.n0▸R.n0,R.len⟩
theorem IsR.plain {h:ah} {r:Nat} {l:List Nat} {e:Int} (R:IsR h r l e):dq h r:=by
 obtain ⟨a,n,c,h1,h2,h3⟩:=R.ex
 exact ⟨_,h1,rd_apart _ _ _ _⟩
theorem dq.kept {h h':ah} {B:Nat→Prop} {b:Nat} (p:dq h b) (k:Kept h h' B) (hb : ¬B b):dq h' b:=by
 obtain ⟨c,h1,h2⟩:=p
 exact ⟨c,k.dp h1 hb,h2⟩
theorem stN_whole {h:ah} {b:Nat} {k k':dW} (hk:h.get b=some k) (h0:h.n0≤b) {n:Nat} (hn:k.length=n) (hn':k'.length=n) (ho:bK k'=true):cf n (ptr b 0) (.agg k'.toArray) h=some (undef,h.set b k'):=by
 unfold cf ptr
 have hc:(Value.agg k'.toArray).cells=k'.toArray:=rfl
 simp only [hc,List.size_toArray,hn',if_true]
 unfold stL
 simp only [hk]
 rw [if_pos (by simp [ho,h0,hn,hn'])]
 have:cL k 0 k'=k':=by simp [cL,hn,hn']
 simp [this]
theorem cZ {h:ah} {b:Nat} {k:dW} (hk:h.get b=some k) {n:Nat} (hn:k.length=n) (hh:Abs.cN k=true):ch n (ptr b 0) h=some (.agg k.toArray,h):=by
 have e:(k.drop 0).take n=k:=by rw [List.drop_zero,List.take_of_length_le (by omega)]
 rw [ldN_at hk (by omega) (by rw [e];exact hh),e]
theorem eT {h:ah} {b:Nat} {k k':dW} (hk:h.get b=some k) (h0:h.n0≤b):Kept h (h.set b k') (fun c=>c=b)∧(h.set b k').get b=some k':=⟨Kept.set h0 hk (.inr rfl),ah.bI h0 hk _⟩
def bG (b:List Nat):Nat:=be ((b.drop 4).take 8)
def iM (b:List Nat):Nat:=be ((b.drop 12).take 4)
def bz (b:List Nat):Nat:=be ((b.drop 16).take 2)
def aP (b:List Nat):Nat:=be ((b.drop 18).take 2)
def cx (b:List Nat):Nat:=be ((b.drop 20).take 2)
def logData (b:List Nat):List Nat:=if cx b≤106 then (b.drop 22).take (cx b) else []
def db (at_:Nat) (b:List Nat):Bool:=right b&&(iM b==at_)&&decide (1≤aP b)&&decide (bz b<aP b)&&decide (cx b≤106)
theorem is56:cA Try.prog 56 Try.f56:=⟨by kernel_rfl,by kernel_rfl,by kernel_rfl,by kernel_rfl⟩
theorem results56:Try.f56.results.toList = [.cell 6 103,.tmp 7]:=by kernel_rfl
theorem ld103 (v:Value) (h:ah):ld Try.prog 103 v h=ch 4 v h:=by
 unfold ld
 rw [show aggT Try.prog 103=some true by kernel_rfl,show ei Try.prog 103=some 4 by kernel_rfl]
theorem res56 (x:Nat→Value) {h:ah} {v:Value} (e:ch 4 (x 6) h=some (v,h)):au Try.prog Try.f56.results.toList (aY 70 x) h=some (.tuple #[v,x 7],h):=by
 have h6:(aY 70 x).getD 6 undef=x 6:=rfl
 have h7:(aY 70 x).getD 7 undef=x 7:=rfl
 rw [results56]
 simp only [au,List.mapM_cons,List.mapM_nil,dS,h6,h7,ld103,e]
 rfl
def gE:dW := [(.int .u64 0),(.int .i64 0),(.int .i64 0),(.slice none 0 0)]
def logC (g p q:Nat) (s:Value):dW := [.int .u64 g,aq p,aq q,s]
theorem plain4 {h:ah} {b:Nat} {g p q:Int} {a:Option Addr} {n c:Nat} (e:h.get b=some [.int .u64 g,.int .i64 p,.int .i64 q,.slice a n c]):dq h b:=⟨_,e,by
 intro v hv
 simp only [List.mem_cons,List.not_mem_nil,or_false] at hv
 rcases hv with rfl|rfl|rfl|rfl<;>rfl⟩
theorem r56 {d:Nat} {D:Dk} {h:ah} (x:bf h d D) (h2:2≤D.n) {ak at_:Nat} (ha:ak≤1) (hat:at_<D.ar) :
  ∃ a n c h',CD 56 [ptr d 0,aq ak,aq at_] h=some (.tuple #[.agg (logC (bG (D.aX (2+ak*D.ar+at_))) (bz (D.aX (2+ak*D.ar+at_))) (aP (D.aX (2+ak*D.ar+at_))) (.slice a n c)).toArray,.bool (db at_ (D.aX (2+ak*D.ar+at_)))],h') ∧
    av a n h'=some (logData (D.aX (2+ak*D.ar+at_)))∧cQ a n c=true∧Old h h'∧(∀ y,a=some y→h.next≤y.block):=by
 have hsm:=x.small
 have har:D.ar=(D.n-2)/2:=rfl
 have hm:ak*D.ar≤D.ar:=by
  have:=Nat.mul_le_mul_right D.ar ha
  omega
 have hi:2+ak*D.ar+at_<D.n:=by
  rcases Nat.le_one_iff_eq_zero_or_eq_one.1 ha with rfl|rfl<;>omega
 have w1:IntKind.wrap .i64 ((ak:Int)*(D.ar:Int))=((ak*D.ar:Nat):Int):=by rw [←Int.natCast_mul,bD (by omega) (by omega)]
 generalize hM:ak*D.ar=M at *
 generalize hI:2+M+at_=i at *
 have w2:IntKind.wrap .i64 (2+(M:Int))=((2+M:Nat):Int):=by rw [bD (by omega) (by omega)];omega
 have w3:IntKind.wrap .i64 (((2+M:Nat):Int)+(at_:Int))=((i:Nat):Int):=by rw [bD (by omega) (by omega)];omega
 have kA:Old h (h.alloc gE):=Kept.alloc h gE _
 have xA:=kA.dk x
 have gA:(h.alloc gE).get h.next=some gE:=by rw [ah.aE,if_pos rfl]
 have e55:=r55 xA h2
 obtain ⟨r,hB,eB,RB,oB,gB⟩:=r84 xA hi
 have hlen:=Dk.blk_length x hi
 have hbb:=Dk.blk_byte x i
 generalize hb:D.aX i=b at *
 have hA1:(h.alloc gE).next=h.next+1:=ah.aS ..
 obtain ⟨hC,eC,RC⟩:=r86 RB (by simp;omega)
 have qB:=oB.dp gA (fun h=>h)
 have qC:=RC.kept.dp qB (by omega)
 have hp:h.next+1≤hC.next:=by rw [RC.next];have:=oB.next;omega
 have hrp:r<hC.next:=by have:=RC.rd.lt;exact this
 have kD:Old hC (hC.alloc gE):=Kept.alloc hC gE _
 have pD:(hC.alloc gE).get hC.next=some gE:=by rw [ah.aE,if_pos rfl]
 have qD:=kD.dp qC (fun h=>h)
 generalize hP:hC.next=p at *
 have n0C:hC.n0≤p:=hP▸hC.aH
 have RD:=RC.rd.aC (B:=fun _=>False) kD
 have eG:cf 4 (ptr p 0) (.agg #[.int .u64 (be ((b.drop 4).take 8)),.int .i64 0,.int .i64 0,.slice none 0 0]) (hC.alloc gE)=some (undef,(hC.alloc gE).set p [.int .u64 (be ((b.drop 4).take 8)),.int .i64 0,.int .i64 0,.slice none 0 0]):=
  stN_whole (k' := [.int .u64 (be ((b.drop 4).take 8)),.int .i64 0,.int .i64 0,.slice none 0 0]) pD n0C rfl rfl rfl
 obtain ⟨kE,pE⟩:=eT (k' := [.int .u64 (be ((b.drop 4).take 8)),.int .i64 0,.int .i64 0,.slice none 0 0]) pD n0C
 have RE:=RD.move kE (by omega) (fun c hc=>by subst hc;exact plain4 pD)
 have qE:=kE.dp qD (by omega)
 generalize hHE:(hC.alloc gE).set p [.int .u64 (be ((b.drop 4).take 8)),.int .i64 0,.int .i64 0,.slice none 0 0]=hE at *
 obtain ⟨hF,eF,RF⟩:=r85 RE (by simp;omega)
 obtain ⟨hG,eG2,RG⟩:=r88 RF.rd (by simp;omega)
 obtain ⟨hH,eH,RH⟩:=r88 RG.rd (by simp;omega)
 simp only [List.drop_drop,Nat.reduceAdd] at eF eG2 eH RH
 have kH:Kept hE hH (fun c=>c=r):=(RF.kept.trans RG.kept).trans RH.kept
 have pH:=kH.dp pE (by omega)
 have qH:=kH.dp qE (by omega)
 have n0H:hH.n0≤p:=by rw [kH.n0,kE.n0];exact n0C
 have b16:=be_lt 2 ((b.drop 16).take 2) (by simp;omega) fun y hy=>hbb y (List.mem_of_mem_drop (List.mem_of_mem_take hy))
 have b18:=be_lt 2 ((b.drop 18).take 2) (by simp;omega) fun y hy=>hbb y (List.mem_of_mem_drop (List.mem_of_mem_take hy))
 have b20:=be_lt 2 ((b.drop 20).take 2) (by simp;omega) fun y hy=>hbb y (List.mem_of_mem_drop (List.mem_of_mem_take hy))
 have b12:=be_lt 4 ((b.drop 12).take 4) (by simp;omega) fun y hy=>hbb y (List.mem_of_mem_drop (List.mem_of_mem_take hy))
 have hg:be ((b.drop 4).take 8)=bG b:=rfl
 have h12:be ((b.drop 12).take 4)=iM b:=rfl
 have h16:be ((b.drop 16).take 2)=bz b:=rfl
 have h18:be ((b.drop 18).take 2)=aP b:=rfl
 have h20:be ((b.drop 20).take 2)=cx b:=rfl
 rw [h12] at eF b12
 rw [h16] at eG2 b16
 rw [h18] at eH b18
 rw [hg] at eC eG pE pH
 have v12:IntKind.wrap .i64 ((iM b:Nat):Int)=(iM b:Nat):=bD (by omega) (by omega)
 have v16:IntKind.wrap .i64 ((bz b:Nat):Int)=(bz b:Nat):=bD (by omega) (by omega)
 have v18:IntKind.wrap .i64 ((aP b:Nat):Int)=(aP b:Nat):=bD (by omega) (by omega)
 have v20:IntKind.wrap .i64 ((cx b:Nat):Int)=(cx b:Nat):=bD (by rw [←h20];omega) (by rw [←h20];omega)
 have eI:cf 1 (ptr p 1) (.int .i64 (bz b)) hH=some (undef,hH.set p [.int .u64 (bG b),.int .i64 (bz b),.int .i64 0,.slice none 0 0]):=dy pH (by simp) n0H rfl rfl
 obtain ⟨kI,pI⟩:=eT (k' := [.int .u64 (bG b),.int .i64 (bz b),.int .i64 0,.slice none 0 0]) pH n0H
 have RI:=RH.rd.move kI (by omega) (fun c hc=>by subst hc;exact plain4 pH)
 have qI:=kI.dp qH (by omega)
 generalize hHI:hH.set p [.int .u64 (bG b),.int .i64 (bz b),.int .i64 0,.slice none 0 0]=hI2 at *
 have n0I:hI2.n0≤p:=by rw [kI.n0];exact n0H
 have eJ:cf 1 (ptr p 2) (.int .i64 (aP b)) hI2=some (undef,hI2.set p [.int .u64 (bG b),.int .i64 (bz b),.int .i64 (aP b),.slice none 0 0]):=dy pI (by simp) n0I rfl rfl
 obtain ⟨kJ,pJ⟩:=eT (k' := [.int .u64 (bG b),.int .i64 (bz b),.int .i64 (aP b),.slice none 0 0]) pI n0I
 have RJ:=RI.move kJ (by omega) (fun c hc=>by subst hc;exact plain4 pI)
 have qJ:=kJ.dp qI (by omega)
 generalize hHJ:hI2.set p [.int .u64 (bG b),.int .i64 (bz b),.int .i64 (aP b),.slice none 0 0]=hJ at *
 have n0J:hJ.n0≤p:=by rw [kJ.n0];exact n0I
 simp only [List.drop_drop,Nat.reduceAdd] at RJ
 obtain ⟨hK,eK,RK⟩:=r88 RJ (by simp;omega)
 rw [h20] at eK
 have pK:=RK.kept.dp pJ (by omega)
 have qK:=RK.kept.dp qJ (by omega)
 have hraw : ∃ a n c hL,CD 89 [ptr r 0,aq (cx b)] hK=some (.slice a n c,hL)∧av a n hL=some (logData b)∧cQ a n c=true∧(∃ l,IsR hL r l (if cx b≤106 then 0 else 4))∧Kept hK hL (fun c=>c=r)∧(∀ y,a=some y→hK.next≤y.block):=by
  have hl22:(b.drop 22).length=106:=by simp;omega
  have RK2:=RK.rd
  simp only [List.drop_drop,Nat.reduceAdd] at RK2
  by_cases hc:cx b≤106
  ·obtain ⟨a',c',h',f1,f2,f3,f4,f5,f6⟩:=r89 RK2 (n:=cx b) (by omega)
   refine ⟨a',_,c',h',f1,?_,f3,⟨_,by rw [if_pos hc];exact f4⟩,f5,f6⟩
   rw [f2,logData,if_pos hc]
  ·obtain ⟨h',f1,f2,f3⟩:=r89_short RK2 (n:=cx b) (by omega)
   refine ⟨none,0,0,h',f1,?_,rfl,⟨_,by rw [if_neg hc];exact f2⟩,f3,fun y hy=>by cases hy⟩
   rw [logData,if_neg hc];rfl
 obtain ⟨a,n,c,hL,eL,sL,gL,⟨l,RL⟩,kL,fL⟩:=hraw
 have pL:=kL.dp pK (by omega)
 have qL:=kL.dp qK (by omega)
 have n0L:hL.n0≤p:=by rw [kL.n0,RK.kept.n0];exact n0J
 have eM:cf 1 (ptr p 3) (.slice a n c) hL=some (undef,hL.set p [.int .u64 (bG b),.int .i64 (bz b),.int .i64 (aP b),.slice a n c]):=dy pL (by simp) n0L rfl rfl
 obtain ⟨kM,pM⟩:=eT (k' := [.int .u64 (bG b),.int .i64 (bz b),.int .i64 (aP b),.slice a n c]) pL n0L
 have RM:=RL.move kM (by omega) (fun c hc=>by subst hc;exact plain4 pL)
 have sM:=kM.ea (fun c hc=>by subst hc;exact plain4 pL) sL
 have qM:=kM.dp qL (by omega)
 generalize hHM:hL.set p [.int .u64 (bG b),.int .i64 (bz b),.int .i64 (aP b),.slice a n c]=hM2 at *
 have e90:=r90 RM
 have l1:ba (ptr p 1) hM2=some (.int .i64 (bz b),hM2):=aN pM rfl
 have l2:ba (ptr p 2) hM2=some (.int .i64 (aP b),hM2):=aN pM rfl
 have lN:ch 4 (ptr p 0) hM2=some (.agg #[.int .u64 (bG b),.int .i64 (bz b),.int .i64 (aP b),.slice a n c],hM2):=cZ pM rfl rfl
 have n0q:hM2.n0≤h.next:=by
  have e1:hM2.n0=h.n0:=by rw [kM.n0,kL.n0,RK.kept.n0,kJ.n0,kI.n0,kH.n0,kE.n0,kD.n0,RC.kept.n0,oB.n0,kA.n0]
  rw [e1];exact h.aH
 have eN:cf 4 (ptr h.next 0) (.agg #[.int .u64 (bG b),.int .i64 (bz b),.int .i64 (aP b),.slice a n c]) hM2=some (undef,hM2.set h.next [.int .u64 (bG b),.int .i64 (bz b),.int .i64 (aP b),.slice a n c]):=
  stN_whole (k' := [.int .u64 (bG b),.int .i64 (bz b),.int .i64 (aP b),.slice a n c]) qM n0q rfl rfl rfl
 obtain ⟨kN,qN⟩:=eT (k' := [.int .u64 (bG b),.int .i64 (bz b),.int .i64 (aP b),.slice a n c]) qM n0q
 have sN:=kN.ea (fun c hc=>by subst hc;exact plain4 qM) sM
 generalize hHN:hM2.set h.next [.int .u64 (bG b),.int .i64 (bz b),.int .i64 (aP b),.slice a n c]=hN at *
 have lq:ch 4 (ptr h.next 0) hN=some (.agg #[.int .u64 (bG b),.int .i64 (bz b),.int .i64 (aP b),.slice a n c],hN):=cZ qN rfl rfl
 have hKn:h.next≤hK.next:=by
  have a1:=RK.kept.next;have a2:=kJ.next;have a3:=kI.next;have a4:=kH.next;have a5:=kE.next;have a6:=kD.next
  omega
 refine ⟨a,n,c,hN,?_,sN,gL,?_,fun y hy=>Nat.le_trans hKn (fL y hy)⟩
 ·refine aO is56 rfl ((t56_eq _ _ _ _ _).trans ?_)
  have hx0 : ∀ a b:Value,aD (.tuple #[a,b]) 0=some a:=fun _ _=>rfl
  have hx1 : ∀ a b:Value,aD (.tuple #[a,b]) 1=some b:=fun _ _=>rfl
  have hbld:fU [(.int .u64 0),(.int .i64 0),(.int .i64 0),(.slice none 0 0)] [(0,1,.int .u64 (bG b))]=some (.agg #[.int .u64 (bG b),.int .i64 0,.int .i64 0,.slice none 0 0]):=rfl
  have i1:aq ak = .int .i64 (ak:Int):=rfl
  have i2:aq D.ar = .int .i64 (D.ar:Int):=rfl
  have i3:aq at_ = .int .i64 (at_:Int):=rfl
  have i4:Value.int .i64 (i:Int)=aq i:=rfl
  have i5:Value.int .i64 (cx b:Int)=aq (cx b):=rfl
  have hz:h.alloc [(.int .u64 0),(.int .i64 0),(.int .i64 0),(.slice none 0 0)]=h.alloc gE:=rfl
  have hz2:hC.alloc [(.int .u64 0),(.int .i64 0),(.int .i64 0),(.slice none 0 0)]=hC.alloc gE:=rfl
  have c1:((aP b:Nat):Int)≥1↔1≤aP b:=by omega
  have c2:((bz b:Nat):Int)<((aP b:Nat):Int)↔bz b<aP b:=by omega
  have fin : ∀ (y:Nat→Value) (v:Bool),y 6=ptr h.next 0→y 7 = .bool v→au Try.prog Try.f56.results.toList (aY 70 y) hN=some (.tuple #[.agg (logC (bG b) (bz b) (aP b) (.slice a n c)).toArray,.bool v],hN):=by
   intro y v h6 h7
   rw [res56 y (by rw [h6];exact lq),h7];rfl
  unfold t56
  simp -implicitDefEqProofs only [dB,Abs.newRow,hz,af,e55,i1,i2,i3,bin_mul,w1,aj,dL,w2,w3,i4,eB,hx0,hx1,eC,hbld,hz2,hP,eG,eF,dg,v12,eG2,v16,eH,v18,ax,Nat.zero_add,eI,eJ,eK,v20,i5,eL,eM,ay]
  unfold db
  cases hc1:right b with
  |false=>
   simp -implicitDefEqProofs only [fs,aF,af,Bool.false_eq_true,if_false,ay,Bool.false_and,lN,eN]
   exact fin _ _ rfl rfl
  |true=>
   simp -implicitDefEqProofs only [beq_self_eq_true,aA,af,aj,eU,if_true,ay,Bool.true_and,int_beq]
   cases hc2:(iM b==at_) with
   |false=>
    simp -implicitDefEqProofs only [fs,aF,af,Bool.false_eq_true,if_false,ay,Bool.false_and,lN,eN]
    exact fin _ _ rfl rfl
   |true=>
    simp -implicitDefEqProofs only [beq_self_eq_true,aA,af,aj,ax,Nat.zero_add,l2,eR,if_true,ay,Bool.true_and]
    rw [decide_eq_decide.2 c1]
    cases hc3:decide (1≤aP b) with
    |false=>
     simp -implicitDefEqProofs only [fs,aF,af,Bool.false_eq_true,if_false,ay,Bool.false_and,lN,eN]
     exact fin _ _ rfl rfl
    |true=>
     simp -implicitDefEqProofs only [beq_self_eq_true,aA,af,aj,ax,Nat.zero_add,l1,l2,bT,if_true,ay,Bool.true_and]
     rw [decide_eq_decide.2 c2]
     cases hc4:decide (bz b<aP b) with
     |false=>
      simp -implicitDefEqProofs only [fs,aF,af,Bool.false_eq_true,if_false,ay,Bool.false_and,lN,eN]
      exact fin _ _ rfl rfl
     |true=>
      simp -implicitDefEqProofs only [beq_self_eq_true,aA,af,aj,e90,if_true,ay,Bool.true_and,bin28e,lN,eN]
      have hv:((if cx b≤106 then (0:Int) else 4)==0)=decide (cx b≤106):=by
       by_cases hc:cx b≤106
       ·rw [if_pos hc,decide_eq_true hc];rfl
       ·rw [if_neg hc,decide_eq_false hc];rfl
      rw [hv]
      exact fin _ _ rfl rfl
 ·have k1:Old h hC:=(kA.trans oB).bS RC.kept (fun c h1 h2=>by omega)
  have k2:Old h hE:=(k1.trans kD).bS kE (fun c h1 h2=>by omega)
  have k3:Old h hH:=k2.bS kH (fun c h1 h2=>by omega)
  have k4:Old h hJ:=(k3.bS kI (fun c h1 h2=>by omega)).bS kJ (fun c h1 h2=>by omega)
  have k5:Old h hL:=(k4.bS RK.kept (fun c h1 h2=>by omega)).bS kL (fun c h1 h2=>by omega)
  exact (k5.bS kM (fun c h1 h2=>by omega)).bS kN (fun c h1 h2=>by omega)
end Go.Proofs.Ytcmfgmhadeeieaa

namespace Go.Proofs.Ytcmfgmhadeeieaa
open Go Go.Abs
def cF:Value→Option Nat
 | .slice (some a) _ _=>some a.block
 |_=>none
def cw (h:ah) (N size:Nat) (v:Value) (len:Nat) (cells:List Value):Prop:=
 cells.length=len*size∧Abs.cN cells=true∧bK cells=true ∧
 ((v = .slice none 0 0∧len=0) ∨ ∃ b s,v = .slice (some ⟨b,0,s⟩) len len∧N≤b∧((s=none∧len=0)∨(s=some size∧h.get b=some cells)))
theorem cw.nil (h:ah) (N size:Nat):cw h N size (.slice none 0 0) 0 []:=⟨by simp,rfl,rfl,.inl ⟨rfl,rfl⟩⟩
theorem cw.empty (h:ah) {N size b:Nat} (hb:N≤b):cw h N size (.slice (some ⟨b,0,none⟩) 0 0) 0 []:=⟨by simp,rfl,rfl,.inr ⟨b,none,rfl,hb,.inl ⟨rfl,rfl⟩⟩⟩
theorem cw.aC {h h':ah} {N size:Nat} {v:Value} {len:Nat} {cells:List Value} (o:cw h N size v len cells) {B:Nat→Prop} (k:Kept h h' B) (hB : ∀ b,cF v=some b → ¬B b):cw h' N size v len cells:=by
 obtain ⟨h1,h2,h3,h4⟩:=o
 refine ⟨h1,h2,h3,?_⟩
 rcases h4 with h4|⟨b,s,rfl,h5,h6|⟨h6,h7⟩⟩
 ·exact .inl h4
 ·exact .inr ⟨b,s,rfl,h5,.inl h6⟩
 ·exact .inr ⟨b,s,rfl,h5,.inr ⟨h6,k.dp h7 (hB b rfl)⟩⟩
theorem noHoles_append (a b:List Value) (ha:Abs.cN a=true) (hb:Abs.cN b=true):Abs.cN (a++b)=true:=by
 unfold Abs.cN at *
 rw [List.all_append,ha,hb];rfl
theorem oneCells_append (a b:List Value) (ha:bK a=true) (hb:bK b=true):bK (a++b)=true:=by
 unfold bK at *
 rw [List.all_append,ha,hb];rfl
theorem cw.base {h:ah} {N size:Nat} {v:Value} {len:Nat} {cells:List Value} (o:cw h N size v len cells) {b:Nat} (hb:cF v=some b):N≤b:=by
 obtain ⟨_,_,_,⟨rfl,_⟩|⟨b',s,rfl,h5,_⟩⟩:=o
 ·cases hb
 ·cases hb;exact h5
theorem im {h:ah} {N size by_ len m:Nat} {v x:Value} {cells news:List Value} (o:cw h N size v len cells) (h0:h.n0≤N) (hN:N≤h.next) (_hs:0<size) (hx:lenA x=some m) (hf:bW size m x h=some news)
  (h1:bK news=true) (h2:Abs.cN news=true) (hl:news.length=m*size) (hb:(len+m)*by_≤140737488355328) (hc:len+m≤4611686018427387904) :
  ∃ v' h',bo size by_ v x h=some (v',h')∧cw h' N size v' (len+m) (cells++news)∧Kept h h' (fun c=>cF v=some c∧h.get c=some cells)∧(v'=v∨cF v'=some h.next):=by
 have o':=o
 obtain ⟨o1,o2,o3,o4⟩:=o
 have hcond : ∀ len':Nat,len'=len→(!(bK news) || !(decide ((len'+m)*by_≤140737488355328)) || !(decide (len'+m≤4611686018427387904))||decide (news.length≠m*size))=false:=by
  rintro _ rfl
  rw [h1,decide_eq_true hb,decide_eq_true hc,decide_eq_false (by omega)];rfl
 by_cases hm:m=0
 ·subst hm
  have hn:news = []:=List.length_eq_zero_iff.1 (by omega)
  subst hn
  have ho:cw h N size v (len+0) (cells ++ []):=by rw [List.append_nil];exact o'
  refine ⟨v,h,?_,ho,Kept.refl _ _,.inl rfl⟩
  rcases o4 with ⟨rfl,rfl⟩|⟨b,s,rfl,h5,h6⟩
  ·unfold bo
   simp only [hx,hf]
   rw [if_neg (by rw [hcond 0 rfl];decide),if_pos (by omega),if_pos trivial]
  ·unfold bo
   simp only [hx,hf]
   rw [if_neg (by rw [hcond len rfl];decide),if_pos (by omega),if_pos trivial]
 ·have fresh : ∀ cs:List Value,cs = []→len=0→cw (h.alloc news) N size (.slice (some ⟨h.next,0,some size⟩) (len+m) (len+m)) (len+m) (cs++news):=by
   rintro _ rfl rfl
   exact ⟨by simpa using hl,by simpa using h2,by simpa using h1,.inr ⟨h.next,_,rfl,hN,.inr ⟨rfl,by rw [ah.aE,if_pos rfl];rfl⟩⟩⟩
  rcases o4 with ⟨rfl,rfl⟩|⟨b,s,rfl,h5,⟨rfl,rfl⟩|⟨rfl,h6⟩⟩
  ·have hce:cells = []:=List.length_eq_zero_iff.1 (by simpa using o1)
   refine ⟨_,_,?_,fresh cells hce rfl,Kept.alloc _ _ _,.inr rfl⟩
   unfold bo
   simp only [hx,hf]
   rw [if_neg (by rw [hcond 0 rfl];decide),if_neg (by omega),if_pos trivial]
  ·have hce:cells = []:=List.length_eq_zero_iff.1 (by simpa using o1)
   refine ⟨_,_,?_,fresh cells hce rfl,Kept.alloc _ _ _,.inr rfl⟩
   unfold bo
   simp only [hx,hf]
   have f0:bW size 0 (.slice (some ⟨b,0,none⟩) 0 0) h=some []:=by simp [bW]
   rw [if_neg (by rw [hcond 0 rfl];decide),if_neg (by omega)]
   simp only [f0]
   rw [if_neg (by simp)];rfl
  ·have hf2:bW size len (.slice (some ⟨b,0,some size⟩) len len) h=some cells:=by
    simp only [bW]
    by_cases hz:len*size=0
    ·rw [if_pos hz]
     have:cells = []:=List.length_eq_zero_iff.1 (by omega)
     rw [this]
    ·rw [if_neg hz]
     simp only [h6]
     have e:(cells.drop 0).take (len*size)=cells:=by rw [List.drop_zero,List.take_of_length_le (by omega)]
     simp only [e]
     rw [if_pos ⟨by omega,o2⟩]
   have hlt:=h.aR h6
   have hk : ∀ c,c<h.next→c≠b→((h.kill b).alloc (cells++news)).get c=h.get c:=by
    intro c hc hne
    rw [ah.aE,if_neg (by rw [ah.next_kill];omega)]
    exact get_kill (by omega) hlt hne
   refine ⟨.slice (some ⟨h.next,0,some size⟩) (len+m) (len+m),(h.kill b).alloc (cells++news),?_,⟨by rw [List.length_append,o1,hl,Nat.add_mul],noHoles_append _ _ o2 h2,oneCells_append _ _ o3 h1,.inr ⟨h.next,_,rfl,hN,.inr ⟨rfl,?_⟩⟩⟩,⟨rfl,by simp,fun c hc hB=>hk c hc (fun e=>hB (by rw [e];exact ⟨rfl,h6⟩))⟩,.inr rfl⟩
   ·unfold bo
    simp only [hx,hf]
    rw [if_neg (by rw [hcond len rfl];decide),if_neg (by omega)]
    simp only [hf2]
    rw [if_neg (by simp [o1]),if_pos (by simp [h6];omega)]
   ·rw [ah.aE,if_pos (by rw [ah.next_kill])]
structure dr (h:ah) (N:Nat) (v:Value) (l:List Nat):Prop where
 own:cw h N 1 v l.length (l.map u8)
 byte : ∀ x∈l,x<256
theorem dr.nil (h:ah) (N:Nat):dr h N (.slice none 0 0) []:=⟨.nil h N 1,by simp⟩
theorem dr.aC {h h':ah} {N:Nat} {v:Value} {l:List Nat} (o:dr h N v l) {B:Nat→Prop} (k:Kept h h' B) (hB : ∀ b,cF v=some b → ¬B b):dr h' N v l:=⟨o.own.aC k hB,o.byte⟩
theorem dr.bytes {h:ah} {N:Nat} {v:Value} {l:List Nat} (o:dr h N v l) : ∃ a c,v = .slice a l.length c∧av a l.length h=some l∧cQ a l.length c=true∧(∀ y,a=some y→N≤y.block)∧(∀ y,a=some y→cF v=some y.block):=by
 obtain ⟨⟨o1,o2,o3,o4⟩,ob⟩:=o
 rcases o4 with ⟨rfl,h4⟩|⟨b,s,rfl,h5,⟨rfl,h4⟩|⟨rfl,h6⟩⟩
 ·have:l = []:=List.length_eq_zero_iff.1 h4
  subst this
  exact ⟨none,0,rfl,rfl,rfl,fun y hy=>(by cases hy),fun y hy=>(by cases hy)⟩
 ·have:l = []:=List.length_eq_zero_iff.1 h4
  subst this
  exact ⟨_,_,rfl,rfl,rfl,fun y hy=>(by cases hy;exact h5),fun y hy=>(by cases hy;rfl)⟩
 ·refine ⟨_,_,rfl,?_,?_,fun y hy=>by cases hy;exact h5,fun y hy=>by cases hy;rfl⟩
  ·have:=c9 (off:=0) (n:=l.length) (s:=some 1) h6 (by omega) ob
   rw [this,List.drop_zero,List.take_of_length_le (Nat.le_refl _)]
  ·unfold cQ
   rw [Nat.ble_eq_true_of_le (Nat.le_refl _)];rfl
theorem dI {h:ah} {N n c:Nat} {v:Value} {l m:List Nat} {a:Option Addr} (o:dr h N v l) (h0:h.n0≤N) (hN:N≤h.next) (hm:av a n h=some m) (hb:l.length+n≤100000000) :
  ∃ v' h',bo 1 1 v (.slice a n c) h=some (v',h')∧dr h' N v' (l++m)∧Kept h h' (fun c=>cF v=some c)∧(v'=v∨cF v'=some h.next):=by
 obtain ⟨hl,hbt,_⟩:=aw hm
 have hf:=firstA_of hm (Nat.le_refl n) (c:=c)
 rw [List.take_of_length_le (by omega)] at hf
 obtain ⟨v',h',e1,e2,e3,e4⟩:=im (by_:=1) o.own h0 hN (by decide) (show lenA (.slice a n c)=some n from rfl) hf (one_u8 _) (ic _) (by simp [hl]) (by omega) (by omega)
 refine ⟨v',h',e1,⟨?_,?_⟩,e3.mono (fun c _ hc=>hc.1),e4⟩
 ·rw [List.length_append,List.map_append,hl];exact e2
 ·intro x hx
  rcases List.mem_append.1 hx with hx|hx
  ·exact o.byte x hx
  ·exact hbt x hx
structure Jn where
 aU:Int
 slot:Int
 ak:Nat
 gen:Nat
 known:Nat
 ready:Bool
 fin:Nat
def Jn.cells (J:Jn) (d:Nat):dW := [ptr d 0,.int .i64 J.aU,.int .i64 J.slot,aq J.ak,.int .u64 J.gen,.int .u64 J.known,.bool J.ready,aq J.fin]
structure cU (h:ah) (j d:Nat) (J:Jn):Prop where
 get:h.get j=some (J.cells d)
 n0:h.n0≤j
 ak:J.ak≤1
theorem Jn.plain (J:Jn) (d:Nat) : ∀ v∈J.cells d,nat8 v=none:=by
 intro v hv
 simp only [Jn.cells,List.mem_cons,List.not_mem_nil,or_false] at hv
 rcases hv with rfl|rfl|rfl|rfl|rfl|rfl|rfl|rfl<;>rfl
theorem cU.aC {h h':ah} {j d:Nat} {J:Jn} (x:cU h j d J) {B:Nat→Prop} (k:Kept h h' B) (hB : ¬B j):cU h' j d J:=⟨k.dp x.get hB,k.n0▸x.n0,x.ak⟩
theorem cU.lt {h:ah} {j d:Nat} {J:Jn} (x:cU h j d J):j<h.next:=h.aR x.get
section
variable {h:ah} {j d:Nat} {J:Jn} (x:cU h j d J)
include x
theorem cU.l0:ba (ptr j 0) h=some (ptr d 0,h):=aN x.get rfl
theorem cU.l1:ba (ptr j 1) h=some (.int .i64 J.aU,h):=aN x.get rfl
theorem cU.l2:ba (ptr j 2) h=some (.int .i64 J.slot,h):=aN x.get rfl
theorem cU.l3:ba (ptr j 3) h=some (aq J.ak,h):=aN x.get rfl
theorem cU.l4:ba (ptr j 4) h=some (.int .u64 J.gen,h):=aN x.get rfl
theorem cU.l5:ba (ptr j 5) h=some (.int .u64 J.known,h):=aN x.get rfl
theorem cU.l6:ba (ptr j 6) h=some (.bool J.ready,h):=aN x.get rfl
theorem cU.l7:ba (ptr j 7) h=some (aq J.fin,h):=aN x.get rfl
end
def Dk.jb (D:Dk) (ak at_:Nat):List Nat:=D.aX (2+ak*D.ar+at_)
def Dk.part (D:Dk) (ak gen at_ parts i:Nat):Bool:=db (at_+i) (D.jb ak (at_+i))&&(bG (D.jb ak (at_+i))==gen)&&(bz (D.jb ak (at_+i))==i)&&(aP (D.jb ak (at_+i))==parts)
def Dk.parts (D:Dk) (ak at_:Nat):Nat:=aP (D.jb ak at_)
def Dk.bg (D:Dk) (ak gen at_:Nat):Bool:=decide (at_+D.parts ak at_≤D.ar)&&decide (1≤D.parts ak at_)&&(List.range (D.parts ak at_)).all (D.part ak gen at_ (D.parts ak at_))
def Dk.data (D:Dk) (ak at_ n:Nat):List Nat:=(List.range n).flatMap fun i=>logData (D.jb ak (at_+i))
theorem Dk.data_succ (D:Dk) (ak at_ n:Nat):D.data ak at_ (n+1)=D.data ak at_ n++logData (D.jb ak (at_+n)):=by
 unfold Dk.data
 rw [List.range_succ,List.flatMap_append]
 simp
theorem Dk.data_length (D:Dk) (ak at_:Nat) : ∀ n,(D.data ak at_ n).length≤106*n
 | 0=>by simp [Dk.data]
 |n+1=>by
  rw [D.data_succ,List.length_append]
  have:=D.data_length ak at_ n
  have h2:(logData (D.jb ak (at_+n))).length≤106:=by
   unfold logData
   split
   ·rw [List.length_take];omega
   ·simp
  omega
theorem Dk.not_stands {D:Dk} {ak gen at_ i:Nat} (hi:i<D.parts ak at_) (hp:D.part ak gen at_ (D.parts ak at_) i=false):D.bg ak gen at_=false:=by
 unfold Dk.bg
 have:(List.range (D.parts ak at_)).all (D.part ak gen at_ (D.parts ak at_))=false:=by
  rw [List.all_eq_false]
  exact ⟨i,List.mem_range.2 hi,by rw [hp];simp⟩
 rw [this,Bool.and_false]
theorem is57:cA Try.prog 57 Try.f57:=⟨by kernel_rfl,by kernel_rfl,by kernel_rfl,by kernel_rfl⟩
theorem bin58n (a b:Nat):bin Try.prog .neq 58 (.int .u64 (a:Int)) (.int .u64 (b:Int))=some (.bool (!(a==b))):=by
 rw [bin_neq]
 show some (Value.bool (!((a:Int)==(b:Int))))=_
 rw [int_beq]
theorem bin3n (a b:Nat):bin Try.prog .neq 3 (aq a) (aq b)=some (.bool (!(a==b))):=by
 unfold aq
 rw [bin_neq]
 show some (Value.bool (!((a:Int)==(b:Int))))=_
 rw [int_beq]
theorem int_lt (a b:Nat):decide ((a:Int)<(b:Int))=decide (a<b):=decide_eq_decide.2 (by omega)
def recFin (D:Dk) (J:Jn) (h0:ah) (at_:Nat) (ex:Ex) (y:Nat→Value) (g:ah):Prop:=
 Old h0 g∧((ex = .ret∧y 4 = .slice none 0 0∧y 5 = .int .i64 0∧D.bg J.ak J.gen at_=false) ∨
  (ex = .exit 0∧D.bg J.ak J.gen at_=true∧y 8=aq (D.parts J.ak at_)∧dr g h0.next (y 7) (D.data J.ak at_ (D.parts J.ak at_))))
def recInv (D:Dk) (J:Jn) (h0:ah) (j at_:Nat) (k:Nat) (y:Nat→Value) (g:ah):Prop:=
 ∃ i P,y 0=ptr j 0∧y 1=aq at_∧y 6=aq D.ar∧y 9=aq i∧y 8=aq P∧i≤P∧i+k=70000∧dr g h0.next (y 7) (D.data J.ak at_ i)∧Old h0 g∧P≤65535 ∧
   ((i=0∧P=1)∨(0<i∧P=D.parts J.ak at_∧at_+i≤D.ar ∧ ∀ q,q<i→D.part J.ak J.gen at_ P q=true))
end Go.Proofs.Ytcmfgmhadeeieaa

namespace Go.Proofs.Ytcmfgmhadeeieaa
open Go Go.Abs
theorem fT (a b:Nat):bin Try.prog .lss 3 (aq a) (aq b)=some (.bool (decide (a<b))):=by
 unfold aq;rw [bT,int_lt]
theorem geq3 (a b:Nat):bin Try.prog .geq 3 (aq a) (aq b)=some (.bool (decide (b≤a))):=by
 unfold aq;rw [eR];exact congrArg (fun q=>some (Value.bool q)) (decide_eq_decide.2 (by omega))
theorem gtr3 (a b:Nat):bin Try.prog .gtr 3 (aq a) (aq b)=some (.bool (decide (b<a))):=by
 unfold aq;rw [dM];exact congrArg (fun q=>some (Value.bool q)) (decide_eq_decide.2 (by omega))
theorem eql3 (a b:Nat):bin Try.prog .eql 3 (aq a) (aq b)=some (.bool (a==b)):=by
 unfold aq;rw [eU,int_beq]
theorem gY {a b:Nat} (h:a+b≤9223372036854775807):bin Try.prog .add 3 (aq a) (aq b)=some (aq (a+b)):=by
 unfold aq;rw [dL,bD (by omega) (by omega),Int.natCast_add]
theorem sub3 {a b:Nat} (h:b≤a) (h2:a≤9223372036854775807):bin Try.prog .sub 3 (aq a) (aq b)=some (aq (a-b)):=by
 unfold aq;rw [gZ,bD (by omega) (by omega)];exact congrArg (fun q=>some (Value.int .i64 q)) (by omega)
theorem mul3 {a b:Nat} (h:a*b≤9223372036854775807):bin Try.prog .mul 3 (aq a) (aq b)=some (aq (a*b)):=by
 unfold aq;rw [bin_mul,←Int.natCast_mul,bD (by omega) (by omega)]
theorem eql3z (a:Nat):bin Try.prog .eql 3 (aq a) (.int .i64 0)=some (.bool (a==0)):=eql3 a 0
theorem ef {a:Nat} (h:a+1≤9223372036854775807):bin Try.prog .add 3 (aq a) (.int .i64 1)=some (aq (a+1)):=gY h
theorem Dk.iw {D:Dk} {ak gen at_ i:Nat} (hi:i<D.parts ak at_∨D.parts ak at_=0) (hp:D.part ak gen at_ (D.parts ak at_) i=false):D.bg ak gen at_=false:=by
 rcases hi with hi|hi
 ·exact Dk.not_stands hi hp
 ·unfold Dk.bg
  rw [hi];simp
theorem logParts_lt {h:ah} {d:Nat} {D:Dk} (x:bf h d D) (ak at_:Nat):aP (D.jb ak at_)<65536:=by
 have hb : ∀ y∈((D.jb ak at_).drop 18).take 2,y<256:=fun y hy=>Dk.blk_byte x _ y (List.mem_of_mem_drop (List.mem_of_mem_take hy))
 have hl:(((D.jb ak at_).drop 18).take 2).length≤2:=List.length_take_le ..
 have:=be_lt _ _ rfl hb
 have h2:=Nat.pow_le_pow_right (n:=256) (by decide) hl
 unfold aP
 omega
theorem rec_round {h0:ah} {d j at_:Nat} {D:Dk} {J:Jn} (x:bf h0 d D) (xj:cU h0 j d J) (h2:2≤D.n) (hat:at_<D.ar) :
  ∀ k y g,recInv D J h0 j at_ k y g→cY 89 (recInv D J h0 j at_) (recFin D J h0 at_) k (hU CD y g):=by
 rintro k y g ⟨i,P,i0,i1,i6,i9,i8,hiP,hk,ho,hold,hP,hcase⟩
 have hsm:=x.small
 have har:D.ar=(D.n-2)/2:=rfl
 have xg:=Old.dk hold x
 have jg:=xj.aC hold (fun h=>h)
 unfold hU
 simp -implicitDefEqProofs only [i8,i9,fT,aj,af]
 by_cases hlt:i<P
 ·simp -implicitDefEqProofs only [decide_eq_true hlt,i1,i6,i0,gY (show at_+i≤9223372036854775807 by omega),aj,af,geq3]
  by_cases hge:D.ar≤at_+i
  ·simp -implicitDefEqProofs only [decide_eq_true hge,af]
   refine cY.ret ⟨hold,.inl ⟨rfl,rfl,rfl,?_⟩⟩
   rcases hcase with ⟨rfl,_⟩|⟨_,rfl,_,_⟩
   ·omega
   ·unfold Dk.bg
    rw [decide_eq_false (show ¬at_+D.parts J.ak at_≤D.ar by omega)];rfl
  ·obtain ⟨a,n,c,g1,e1,e2,e3,e4,e5⟩:=r56 xg h2 jg.ak (show at_+i<D.ar by omega)
   have hjb:D.aX (2+J.ak*D.ar+(at_+i))=D.jb J.ak (at_+i):=rfl
   rw [hjb] at e1 e2
   have hpl:=logParts_lt x J.ak (at_+i)
   have g2p:(g1.alloc gE).get g1.next=some gE:=by rw [ah.aE,if_pos rfl]
   have n02:(g1.alloc gE).n0≤g1.next:=g1.aH
   generalize hcs:logC (bG (D.jb J.ak (at_+i))) (bz (D.jb J.ak (at_+i))) (aP (D.jb J.ak (at_+i))) (.slice a n c)=cs at e1
   have hst:cf 4 (ptr g1.next 0) (.agg cs.toArray) (g1.alloc gE)=some (undef,(g1.alloc gE).set g1.next cs):=by
    subst hcs;exact stN_whole g2p n02 rfl rfl rfl
   obtain ⟨k3,g3p⟩:=eT (k':=cs) g2p n02
   have k2:Old g1 (g1.alloc gE):=Kept.alloc g1 gE _
   have k13:Old g ((g1.alloc gE).set g1.next cs):=(e4.trans k2).bS k3 (fun c h1 h2=>by have:=e4.next;omega)
   have sB:=k3.ea (fun c hc=>by subst hc;exact plain4 g2p) (Old.bytes k2 e2)
   have hlogz:g1.alloc [(.int .u64 0),(.int .i64 0),(.int .i64 0),(.slice none 0 0)]=g1.alloc gE:=rfl
   generalize hg3:(g1.alloc gE).set g1.next cs=g3 at *
   have l0:ba (ptr g1.next 0) g3=some (.int .u64 (bG (D.jb J.ak (at_+i))),g3):=by subst hcs;exact aN g3p rfl
   have l1:ba (ptr g1.next 1) g3=some (aq (bz (D.jb J.ak (at_+i))),g3):=by subst hcs;exact aN g3p rfl
   have l2:ba (ptr g1.next 2) g3=some (aq (aP (D.jb J.ak (at_+i))),g3):=by subst hcs;exact aN g3p rfl
   have l3:ba (ptr g1.next 3) g3=some (.slice a n c,g3):=by subst hcs;exact aN g3p rfl
   have hold3:Old h0 g3:=hold.trans k13
   have jg3:=xj.aC hold3 (fun h=>h)
   have ho3:=ho.aC k13 (fun _ _ h=>h)
   have hlen:=D.data_length J.ak at_ i
   have hn:n≤106:=by
    obtain ⟨h1,_,_⟩:=aw sB
    have h2:(logData (D.jb J.ak (at_+i))).length≤106:=by
     unfold logData
     split
     ·rw [List.length_take];omega
     ·simp
    omega
   obtain ⟨v',g4,f1,f2,f3,f4⟩:=dI (c:=c) ho3 (by rw [hold3.n0];exact h0.aH) hold3.next sB (by omega)
   rw [←D.data_succ] at f2
   have hold4:Old h0 g4:=hold3.bS f3 (fun c hc hb=>by
    obtain ⟨a1,c1,e6,_,_,e7,e8⟩:=ho3.bytes
    rw [e6] at hb
    cases a1 with
    |none=>cases hb
    |some y1=>
     have:=e7 y1 rfl
     have hb:some y1.block=some c:=hb
     cases hb
     omega)
   have hx0 : ∀ a b:Value,aD (.tuple #[a,b]) 0=some a:=fun _ _=>rfl
   have hx1 : ∀ a b:Value,aD (.tuple #[a,b]) 1=some b:=fun _ _=>rfl
   simp -implicitDefEqProofs only [decide_eq_false hge,aJ,aj,af,ax,Nat.zero_add,jg.l0,jg.l3,e1,hx0,hx1,dB,Abs.newRow,hlogz,hst,eql3z]
   by_cases hi0:i=0
   ·have hP':D.parts J.ak at_=aP (D.jb J.ak (at_+i)):=by rw [hi0];rfl
    have hfl:i<D.parts J.ak at_∨D.parts J.ak at_=0:=by omega
    have hfail:D.part J.ak J.gen at_ (aP (D.jb J.ak (at_+i))) i=false→D.bg J.ak J.gen at_=false:=fun hf=>Dk.iw hfl (by rw [hP'];exact hf)
    have hbeq:(i==0)=true:=by simp [hi0]
    have hpp:(aP (D.jb J.ak (at_+i))==aP (D.jb J.ak (at_+i)))=true:=beq_self_eq_true _
    unfold Dk.part at hfail
    rw [hpp,Bool.and_true] at hfail
    simp -implicitDefEqProofs only [hbeq,l2,aj,af,cC,ay]
    cases hc1:db (at_+i) (D.jb J.ak (at_+i)) with
    |false=>
     simp -implicitDefEqProofs only [Bool.not_false,sf,aF,af,if_true,ay]
     exact cY.ret ⟨hold3,.inl ⟨rfl,rfl,rfl,hfail (by rw [hc1];rfl)⟩⟩
    |true=>
     simp -implicitDefEqProofs only [Bool.not_true,beq_self_eq_true,aA,af,aj,ax,Nat.zero_add,l0,jg3.l4,bin58n,aJ,Bool.false_eq_true,if_false,ay]
     cases hc2:(bG (D.jb J.ak (at_+i))==J.gen) with
     |false=>
      simp -implicitDefEqProofs only [Bool.not_false,sf,aF,af,if_true,ay]
      exact cY.ret ⟨hold3,.inl ⟨rfl,rfl,rfl,hfail (by rw [hc1,hc2];rfl)⟩⟩
     |true=>
      simp -implicitDefEqProofs only [Bool.not_true,beq_self_eq_true,aA,af,aj,ax,Nat.zero_add,l1,bin3n,Bool.false_eq_true,if_false,ay]
      cases hc3:(bz (D.jb J.ak (at_+i))==i) with
      |false=>
       simp -implicitDefEqProofs only [Bool.not_false,sf,aF,af,if_true,ay]
       exact cY.ret ⟨hold3,.inl ⟨rfl,rfl,rfl,hfail (by rw [hc1,hc2,hc3];rfl)⟩⟩
      |true=>
       simp -implicitDefEqProofs only [Bool.not_true,beq_self_eq_true,aA,af,aj,l2,bin3n,Bool.false_eq_true,if_false,l3,f1,ef (show i+1≤9223372036854775807 by omega)]
       have h1p:1≤aP (D.jb J.ak (at_+i)):=by
        unfold db at hc1
        simp only [Bool.and_eq_true,decide_eq_true_eq] at hc1
        exact hc1.1.1.2
       refine cY.next (k-1) (by omega) ⟨i+1,aP (D.jb J.ak (at_+i)),i0,i1,i6,rfl,rfl,by omega,by omega,f2,hold4,by omega,.inr ⟨by omega,hP'.symm,by omega,?_⟩⟩
       intro q hq
       have:q=i:=by omega
       subst this
       unfold Dk.part
       rw [hc1,hc2,hc3,hpp];rfl
   ·rcases hcase with ⟨h,_⟩|⟨hi1,hPe,hati,hall⟩
    ·exact absurd h hi0
    have hfail:D.part J.ak J.gen at_ P i=false→D.bg J.ak J.gen at_=false:=fun hf=>Dk.iw (i:=i) (.inl (by omega)) (by rw [←hPe];exact hf)
    have hbeq:(i==0)=false:=by simp [hi0]
    unfold Dk.part at hfail
    simp -implicitDefEqProofs only [hbeq,aj,af,cC,ay]
    cases hc1:db (at_+i) (D.jb J.ak (at_+i)) with
    |false=>
     simp -implicitDefEqProofs only [Bool.not_false,sf,aF,af,if_true,ay]
     exact cY.ret ⟨hold3,.inl ⟨rfl,rfl,rfl,hfail (by rw [hc1];rfl)⟩⟩
    |true=>
     simp -implicitDefEqProofs only [Bool.not_true,beq_self_eq_true,aA,af,aj,ax,Nat.zero_add,l0,jg3.l4,bin58n,aJ,Bool.false_eq_true,if_false,ay]
     cases hc2:(bG (D.jb J.ak (at_+i))==J.gen) with
     |false=>
      simp -implicitDefEqProofs only [Bool.not_false,sf,aF,af,if_true,ay]
      exact cY.ret ⟨hold3,.inl ⟨rfl,rfl,rfl,hfail (by rw [hc1,hc2];rfl)⟩⟩
     |true=>
      simp -implicitDefEqProofs only [Bool.not_true,beq_self_eq_true,aA,af,aj,ax,Nat.zero_add,l1,bin3n,Bool.false_eq_true,if_false,ay]
      cases hc3:(bz (D.jb J.ak (at_+i))==i) with
      |false=>
       simp -implicitDefEqProofs only [Bool.not_false,sf,aF,af,if_true,ay]
       exact cY.ret ⟨hold3,.inl ⟨rfl,rfl,rfl,hfail (by rw [hc1,hc2,hc3];rfl)⟩⟩
      |true=>
       simp -implicitDefEqProofs only [Bool.not_true,beq_self_eq_true,aA,af,aj,l2,bin3n,Bool.false_eq_true,if_false]
       cases hc4:(aP (D.jb J.ak (at_+i))==P) with
       |false=>
        simp -implicitDefEqProofs only [Bool.not_false]
        exact cY.ret ⟨hold3,.inl ⟨rfl,rfl,rfl,hfail (by rw [hc1,hc2,hc3,hc4];rfl)⟩⟩
       |true=>
        simp -implicitDefEqProofs only [Bool.not_true,ax,Nat.zero_add,aj,af,l3,f1,ef (show i+1≤9223372036854775807 by omega)]
        refine cY.next (k-1) (by omega) ⟨i+1,P,i0,i1,i6,rfl,i8,by omega,by omega,f2,hold4,hP,.inr ⟨by omega,hPe,by omega,?_⟩⟩
        intro q hq
        by_cases hqi:q=i
        ·subst hqi
         unfold Dk.part
         rw [hc1,hc2,hc3,hc4];rfl
        ·exact hall q (by omega)
 ·simp -implicitDefEqProofs only [decide_eq_false hlt]
  have hii:i=P:=by omega
  rcases hcase with ⟨h,h'⟩|⟨hi1,hPe,hati,hall⟩
  ·omega
  ·refine cY.out 0 ⟨hold,.inr ⟨rfl,?_,?_,?_⟩⟩
   ·unfold Dk.bg
    rw [←hPe,decide_eq_true (show at_+P≤D.ar by omega),decide_eq_true (show 1≤P by omega)]
    simp only [Bool.true_and,List.all_eq_true,List.mem_range]
    exact fun q hq=>hall q (by omega)
   ·show y 8=_
    rw [i8,hPe]
   ·show dr g h0.next (y 7) _
    rw [←hPe,←hii];exact ho
end Go.Proofs.Ytcmfgmhadeeieaa

namespace Go.Proofs.Ytcmfgmhadeeieaa
open Go Go.Abs
theorem rec_loop {h0:ah} {d j at_:Nat} {D:Dk} {J:Jn} (x:bf h0 d D) (xj:cU h0 j d J) (h2:2≤D.n) (hat:at_<D.ar) {y:Nat→Value} (i0:y 0=ptr j 0) (i1:y 1=aq at_) (i6:y 6=aq D.ar) (i9:y 9=aq 0) (i8:y 8=aq 1) (i7:y 7 = .slice none 0 0) :
  Fin 89 (recFin D J h0 at_) (iter (aI Try.prog CD (partOf Try.f57 [1,1,1,1,1,0,1,0,0])) rounds (aY 89 y) h0):=
 cg (t57l57_11111010_eq CD) (rec_round x xj h2 hat) 70000 (by have:rounds=18446744073709551616:=rfl;omega)
  ⟨0,1,i0,i1,i6,i9,i8,by omega,rfl,by rw [i7];exact .nil _ _,Kept.refl _ _,by omega,.inl ⟨rfl,rfl⟩⟩
def Dk.none (D:Dk) (J:Jn) (at_:Int):Prop:=J.slot<0∨at_<0∨(D.ar:Int)≤at_∨D.bg J.ak J.gen at_.toNat=false
theorem r57_start {h:ah} {d j:Nat} {D:Dk} {J:Jn} (x:bf h d D) (xj:cU h j d J) (h2:2≤D.n) (at_:Int) (hout:J.slot<0∨at_<0∨(D.ar:Int)≤at_) :
  CD 57 [ptr j 0,.int .i64 at_] h=some (.tuple #[.slice none 0 0,.int .i64 0],h):=by
 refine aO is57 rfl ((t57_eq _ _ _ _).trans ?_)
 unfold t57
 simp -implicitDefEqProofs only [af,aJ,aj,ax,Nat.zero_add,xj.l0,r55 x h2,xj.l2,bT,ay]
 by_cases c1:J.slot<0
 ·simp -implicitDefEqProofs only [c1,decide_true,sf,aF,af,if_true,ay]
 ·simp -implicitDefEqProofs only [c1,decide_false,beq_self_eq_true,aA,af,aj,bT,Bool.false_eq_true,if_false,ay]
  by_cases c2:at_<0
  ·simp -implicitDefEqProofs only [c2,decide_true,sf,aF,af,if_true]
  ·have c3:at_≥(D.ar:Int):=by omega
   simp -implicitDefEqProofs only [c2,decide_false,beq_self_eq_true,aA,af,aj,aq,eR,c3,decide_true,Bool.false_eq_true,if_false]
theorem r57_run {h:ah} {d j:Nat} {D:Dk} {J:Jn} (x:bf h d D) (xj:cU h j d J) (h2:2≤D.n) {at_:Nat} (hs:0≤J.slot) (hat:at_<D.ar) :
  (D.bg J.ak J.gen at_=false ∧ ∃ h',CD 57 [ptr j 0,aq at_] h=some (.tuple #[.slice none 0 0,.int .i64 0],h')∧Old h h') ∨
  (D.bg J.ak J.gen at_=true ∧ ∃ v h',CD 57 [ptr j 0,aq at_] h=some (.tuple #[v,aq (D.parts J.ak at_)],h')∧Old h h'∧dr h' h.next v (D.data J.ak at_ (D.parts J.ak at_))):=by
 have c1 : ¬J.slot<0:=by omega
 have c2 : ¬((at_:Int)<0):=by omega
 have c3 : ¬((at_:Int)≥(D.ar:Int)):=by omega
 have key : ∀ (o:Out),bw Try.prog CD Try.f57 [ptr j 0,aq at_] h=o→(D.bg J.ak J.gen at_=false ∧ ∃ h',o=some (.tuple #[.slice none 0 0,.int .i64 0],h')∧Old h h') ∨
  (D.bg J.ak J.gen at_=true ∧ ∃ v h',o=some (.tuple #[v,aq (D.parts J.ak at_)],h')∧Old h h'∧dr h' h.next v (D.data J.ak at_ (D.parts J.ak at_))):=by
  intro o ho
  subst ho
  rw [t57_eq]
  unfold t57
  simp -implicitDefEqProofs only [af,aJ,aj,ax,Nat.zero_add,xj.l0,r55 x h2,xj.l2,bT,ay,c1,c2,c3,decide_false,beq_self_eq_true,aA,aq,eR,Bool.false_eq_true,if_false]
  refine cn (Q:=fun (o:Out)=>(D.bg J.ak J.gen at_=false ∧ ∃ h',o=some (.tuple #[.slice none 0 0,.int .i64 0],h')∧Old h h') ∨
   (D.bg J.ak J.gen at_=true ∧ ∃ v h',o=some (.tuple #[v,aq (D.parts J.ak at_)],h')∧Old h h'∧dr h' h.next v (D.data J.ak at_ (D.parts J.ak at_)))) (rec_loop x xj h2 hat rfl rfl rfl rfl rfl rfl) ?_
  rintro ex y g ⟨hold,⟨rfl,y4,y5,hst⟩|⟨rfl,hst,y8,hown⟩⟩
  ·refine .inl ⟨hst,g,?_,hold⟩
   have hr:Try.f57.results.toList = [.tmp 4,.tmp 5]:=by kernel_rfl
   have h4:(aY 89 y).getD 4 undef=y 4:=rfl
   have h5:(aY 89 y).getD 5 undef=y 5:=rfl
   show au Try.prog Try.f57.results.toList (aY 89 y) g=_
   rw [hr]
   simp only [au,List.mapM_cons,List.mapM_nil,dS,h4,h5,y4,y5]
   rfl
  ·refine .inr ⟨hst,y 7,g,?_,hold,hown⟩
   simp -implicitDefEqProofs only [bA,b57_9,if_true,t57k57_7_eq]
   unfold t57k57_7
   simp -implicitDefEqProofs only [y8,af]
 rcases key _ rfl with ⟨h3,h',h4,h5⟩|⟨h3,v,h',h4,h5,h6⟩
 ·exact .inl ⟨h3,h',aO is57 rfl h4,h5⟩
 ·exact .inr ⟨h3,v,h',aO is57 rfl h4,h5,h6⟩
def Jn.live (J:Jn) (D:Dk):Bool := !D.down&&(D.aU==J.aU)
theorem eql38 (b o:Nat):bin Try.prog .eql 38 (ptr b o) (.pointer none)=some (.bool false):=by kernel_rfl
theorem eql38':bin Try.prog .eql 38 (.pointer none) (.pointer none)=some (.bool true):=by kernel_rfl
theorem is58:cA Try.prog 58 Try.f58:=⟨by kernel_rfl,by kernel_rfl,by kernel_rfl,by kernel_rfl⟩
theorem r58 {h:ah} {d j:Nat} {D:Dk} {J:Jn} (x:bf h d D) (xj:cU h j d J):CD 58 [ptr j 0] h=some (.int .i64 (if J.live D then 0 else 9),h):=by
 refine aO is58 rfl ((t58_eq _ _ _).trans ?_)
 unfold t58 Jn.live
 simp -implicitDefEqProofs only [af,eql38,aj,aJ,ax,Nat.zero_add,xj.l0,x.l1,ay]
 cases D.down with
 |true=>rfl
 |false=>
  have hne:bin Try.prog .neq 3 (.int .i64 D.aU) (.int .i64 J.aU)=some (.bool (D.aU != J.aU)):=bin_neq ..
  simp -implicitDefEqProofs only [beq_self_eq_true,aA,af,aj,aJ,ax,Nat.zero_add,xj.l0,x.l5,xj.l1,hne,Bool.false_eq_true,if_false,Bool.not_false,Bool.true_and,bne]
  cases (D.aU==J.aU)<;>rfl
theorem r58_nil (h:ah):CD 58 [.pointer none] h=some (.int .i64 1,h):=by
 refine aO is58 rfl ((t58_eq _ _ _).trans ?_)
 unfold t58
 simp -implicitDefEqProofs only [af,eql38',aj]
theorem is34:cA Try.prog 34 Try.f34:=⟨by kernel_rfl,by kernel_rfl,by kernel_rfl,by kernel_rfl⟩
theorem is22:cA Try.prog 22 Try.f22:=⟨by kernel_rfl,by kernel_rfl,by kernel_rfl,by kernel_rfl⟩
theorem is26:cA Try.prog 26 Try.f26:=⟨by kernel_rfl,by kernel_rfl,by kernel_rfl,by kernel_rfl⟩
theorem is74:cA Try.prog 74 Try.f74:=⟨by kernel_rfl,by kernel_rfl,by kernel_rfl,by kernel_rfl⟩
theorem r34 {h:ah} {d j:Nat} {D:Dk} {J:Jn} (x:bf h d D) (xj:cU h j d J):CD 34 [ptr j 0] h=some (.int .u64 ((if J.live D then J.gen else 0:Nat):Int),h):=by
 refine aO is34 rfl ((t34_eq _ _ _).trans ?_)
 unfold t34
 simp -implicitDefEqProofs only [af,r58 x xj,aj,dG]
 cases J.live D with
 |true=>simp -implicitDefEqProofs only [if_true,bne_self_eq_false,af,aJ,aj,ax,Nat.zero_add,xj.l4]
 |false=>rfl
theorem r34_nil (h:ah):CD 34 [.pointer none] h=some (.int .u64 0,h):=by
 refine aO is34 rfl ((t34_eq _ _ _).trans ?_)
 unfold t34
 simp -implicitDefEqProofs only [af,r58_nil,aj,dG,show ((1:Int) != 0)=true from rfl]
theorem r22 {h:ah} {d j:Nat} {D:Dk} {J:Jn} (x:bf h d D) (xj:cU h j d J) (h2:2≤D.n):CD 22 [ptr j 0] h=some (aq (if J.live D then D.ar else 0),h):=by
 refine aO is22 rfl ((t22_eq _ _ _).trans ?_)
 unfold t22
 simp -implicitDefEqProofs only [af,r58 x xj,aj,dG]
 cases J.live D with
 |true=>simp -implicitDefEqProofs only [if_true,bne_self_eq_false,af,aJ,aj,ax,Nat.zero_add,xj.l0,r55 x h2]
 |false=>rfl
theorem r22_nil (h:ah):CD 22 [.pointer none] h=some (aq 0,h):=by
 refine aO is22 rfl ((t22_eq _ _ _).trans ?_)
 unfold t22
 simp -implicitDefEqProofs only [af,r58_nil,aj,dG,show ((1:Int) != 0)=true from rfl]
 rfl
def Jn.free (J:Jn) (D:Dk):Nat:=if J.live D&&J.ready then D.ar-J.fin else 0
theorem dJ {o:Out} {v:Value} {q:ah} (h:o=some (v,q)) (hv:veq v v=true):cE true o v=true:=by
 unfold cE Abs.same
 rw [h]
 simpa using hv
theorem r26 {h:ah} {d j:Nat} {D:Dk} {J:Jn} (x:bf h d D) (xj:cU h j d J) (h2:2≤D.n) (hf:J.ready=true→J.fin≤D.ar):CD 26 [ptr j 0] h=some (aq (J.free D),h):=by
 refine aO is26 rfl ((t26_eq _ _ _).trans ?_)
 have hsm:=x.small
 have har:D.ar=(D.n-2)/2:=rfl
 unfold t26 Jn.free
 simp -implicitDefEqProofs only [af,r58 x xj,aj,dG,ay]
 cases J.live D with
 |false=>rfl
 |true=>
  simp -implicitDefEqProofs only [if_true,bne_self_eq_false,beq_self_eq_true,aA,af,aJ,aj,ax,Nat.zero_add,xj.l6,cC,Bool.false_eq_true,if_false,Bool.true_and]
  cases hr:J.ready with
  |false=>rfl
  |true=>
   simp -implicitDefEqProofs only [Bool.not_true,af,aJ,aj,ax,Nat.zero_add,xj.l0,r55 x h2,xj.l7,sub3 (hf hr) (show D.ar≤9223372036854775807 by omega),dJ (rfl:some (aq J.fin,h)=some (aq J.fin,h)) (show veq (aq J.fin) (aq J.fin)=true by simp [aq,veq]),Bool.and_true,if_true]
theorem r26_nil (h:ah):CD 26 [.pointer none] h=some (aq 0,h):=by
 refine aO is26 rfl ((t26_eq _ _ _).trans ?_)
 unfold t26
 simp -implicitDefEqProofs only [af,r58_nil,aj,dG,show ((1:Int) != 0)=true from rfl,ay,sf,aF,if_true]
 rfl
def Jn.base (J:Jn) (D:Dk):Nat:=if J.live D&&decide (0≤J.slot) then 2+J.ak*D.ar else 0
theorem r74 {h:ah} {d j:Nat} {D:Dk} {J:Jn} (x:bf h d D) (xj:cU h j d J) (h2:2≤D.n):CD 74 [ptr j 0] h=some (aq (J.base D),h):=by
 refine aO is74 rfl ((t74_eq _ _ _).trans ?_)
 have hsm:=x.small
 have har:D.ar=(D.n-2)/2:=rfl
 have hm:J.ak*D.ar≤D.ar:=by
  have:=Nat.mul_le_mul_right D.ar xj.ak
  omega
 unfold t74 Jn.base
 simp -implicitDefEqProofs only [af,r58 x xj,aj,dG,ay]
 cases J.live D with
 |false=>rfl
 |true=>
  simp -implicitDefEqProofs only [if_true,bne_self_eq_false,beq_self_eq_true,aA,af,aJ,aj,ax,Nat.zero_add,xj.l2,bT,Bool.false_eq_true,if_false,Bool.true_and]
  by_cases c1:J.slot<0
  ·simp -implicitDefEqProofs only [c1,decide_true,af,show ¬(0≤J.slot) by omega,decide_false,Bool.false_eq_true,if_false]
   rfl
  ·have h21:bin Try.prog .add 3 (.int .i64 2) (aq (J.ak*D.ar))=some (aq (2+J.ak*D.ar)):=gY (a:=2) (by omega)
   simp -implicitDefEqProofs only [c1,decide_false,af,aJ,aj,ax,Nat.zero_add,xj.l3,xj.l0,r55 x h2,mul3 (show J.ak*D.ar≤9223372036854775807 by omega),h21,dJ (rfl:some (aq J.ak,h)=some (aq J.ak,h)) (show veq (aq J.ak) (aq J.ak)=true by simp [aq,veq]),Bool.and_true,if_true,show (0:Int)≤J.slot by omega,decide_true]
theorem r74_nil (h:ah):CD 74 [.pointer none] h=some (aq 0,h):=by
 refine aO is74 rfl ((t74_eq _ _ _).trans ?_)
 unfold t74
 simp -implicitDefEqProofs only [af,r58_nil,aj,dG,show ((1:Int) != 0)=true from rfl,ay,sf,aF,if_true]
 rfl
def Jn.bg (J:Jn) (D:Dk) (at_:Int):Bool:=decide (0≤J.slot)&&decide (0≤at_)&&decide (at_<(D.ar:Int))&&D.bg J.ak J.gen at_.toNat
theorem Dk.stands_pos {D:Dk} {ak gen at_:Nat} (h:D.bg ak gen at_=true):1≤D.parts ak at_∧at_+D.parts ak at_≤D.ar:=by
 unfold Dk.bg at h
 simp only [Bool.and_eq_true,decide_eq_true_eq] at h
 exact ⟨h.1.2,h.1.1⟩
end Go.Proofs.Ytcmfgmhadeeieaa

namespace Go.Proofs.Ytcmfgmhadeeieaa
open Go Go.Abs
structure IsW (h:ah) (N w lim:Nat) (l:List Nat):Prop where
 ex : ∃ v,h.get w=some [aq lim,.bool false,v]∧dr h N v l∧cF v≠some w
 n0:h.n0≤N
 Nw:N≤w
 small:lim≤100000
abbrev Abv (N:Nat) (h h':ah):Prop:=Kept h h' (fun c=>N≤c)
theorem IsW.lt {h:ah} {N w lim:Nat} {l:List Nat} (W:IsW h N w lim l):w<h.next:=by
 obtain ⟨v,h1,_⟩:=W.ex
 exact h.aR h1
theorem dr.nat8 {h:ah} {N:Nat} {v:Value} {l:List Nat} (o:dr h N v l):nat8 v=none:=by
 obtain ⟨a,c,rfl,_⟩:=o.bytes
 rfl
theorem dr.cell {h:ah} {N:Nat} {v:Value} {l:List Nat} (o:dr h N v l):v.cells = #[v]∧v.oneCell'=true∧isHole v=false:=by
 obtain ⟨a,c,rfl,_⟩:=o.bytes
 exact ⟨rfl,rfl,rfl⟩
theorem w_append {h:ah} {N w lim:Nat} {l m:List Nat} {a:Option Addr} {n c:Nat} (W:IsW h N w lim l) (hm:av a n h=some m) (hb:l.length+n≤100000) :
  ∃ v v' g g',ba (ptr w 2) h=some (v,h)∧bo 1 1 v (.slice a n c) h=some (v',g)∧cf 1 (ptr w 2) v' g=some (undef,g')∧IsW g' N w lim (l++m)∧Abv N h g':=by
 obtain ⟨v,h1,h2,h3⟩:=W.ex
 have hlt:=W.lt
 have hNw:=W.Nw
 obtain ⟨v',g,e1,e2,e3,e4⟩:=dI (c:=c) h2 W.n0 (by omega) hm (by omega)
 have hg:=e3.dp h1 h3
 obtain ⟨c1,c2,c3⟩:=e2.cell
 have n0g:g.n0≤w:=by rw [e3.n0];have:=W.n0;omega
 have hst:cf 1 (ptr w 2) v' g=some (undef,g.set w [aq lim,.bool false,v']):=dy hg (by simp) n0g c1 c2
 obtain ⟨k2,k3⟩:=eT (k' := [aq lim,.bool false,v']) hg n0g
 have hv':cF v'≠some w:=by
  rcases e4 with rfl|e4
  ·exact h3
  ·rw [e4];intro he;cases he;omega
 refine ⟨v,v',g,_,aN h1 rfl (h2.cell.2.2),e1,hst,⟨⟨v',k3,e2.aC k2 (fun b hb hc=>by subst hc;exact hv' hb),hv'⟩,?_,hNw,W.small⟩,?_⟩
 ·rw [k2.n0,e3.n0];exact W.n0
 ·refine (e3.mono (B':=fun c=>N≤c) ?_).trans (k2.mono (fun c _ hc=>by rw [hc];exact hNw))
  intro b _ hb
  obtain ⟨a1,c4,rfl,_,_,h7,h8⟩:=h2.bytes
  cases a1 with
  |none=>cases hb
  |some y=>
   have hb:some y.block=some b:=hb
   cases hb
   exact h7 y rfl
theorem is60:cA Try.prog 60 Try.f60:=⟨by kernel_rfl,by kernel_rfl,by kernel_rfl,by kernel_rfl⟩
theorem r60 (h:ah) {lim:Nat} (hl:lim≤100000) : ∃ h',CD 60 [aq lim] h=some (ptr h.next 0,h')∧IsW h' h.next h.next lim []∧Abv h.next h h':=by
 have hmx:dA true (.int .i64 0) [aq lim]=some (aq lim):=by
  simp only [dA,aq,if_true]
  by_cases h0:(lim:Int)>0
  ·rw [if_pos (by simpa using h0)]
  ·have:lim=0:=by omega
   subst this;rfl
 have hb:fU [(.int .i64 0),(.bool false),(.slice none 0 0)] [(0,1,aq lim)]=some (.agg [aq lim,.bool false,.slice none 0 0].toArray):=rfl
 refine ⟨h.alloc [aq lim,.bool false,.slice none 0 0],aO is60 rfl ((t60_eq _ _ _).trans ?_),⟨⟨.slice none 0 0,by rw [ah.aE,if_pos rfl],.nil _ _,by intro h;cases h⟩,h.aH,Nat.le_refl _,hl⟩,Kept.alloc _ _ _⟩
 unfold t60
 simp -implicitDefEqProofs only [af,hmx,aj,hb,box_at h [aq lim,.bool false,.slice none 0 0] rfl]
theorem is109:cA Try.prog 109 Try.f109:=⟨by kernel_rfl,by kernel_rfl,by kernel_rfl,by kernel_rfl⟩
theorem eql110 (b o:Nat):bin Try.prog .eql 110 (ptr b o) (.pointer none)=some (.bool false):=by kernel_rfl
theorem r109 {h:ah} {N w lim:Nat} {l:List Nat} (W:IsW h N w lim l) {n:Nat} (hn:l.length+n≤lim) : ∃ h',CD 109 [ptr w 0,aq n] h=some (.bool true,h')∧IsW h' N w lim l∧Abv N h h':=by
 obtain ⟨v,h1,h2,h3⟩:=W.ex
 obtain ⟨a,c,hv,h4,h5,h6,h7⟩:=h2.bytes
 have hNw:=W.Nw
 have n0w:h.n0≤w:=by have:=W.n0;omega
 have l0:ba (ptr w 0) h=some (aq lim,h):=aN h1 rfl
 have l1:ba (ptr w 1) h=some (.bool false,h):=aN h1 rfl
 have l2:ba (ptr w 2) h=some (.slice a l.length c,h):=by rw [←hv];exact aN h1 rfl (h2.cell.2.2)
 have hst:cf 1 (ptr w 1) (.bool false) h=some (undef,h.set w [aq lim,.bool false,v]):=dy h1 (by simp) n0w rfl rfl
 obtain ⟨k2,k3⟩:=eT (k' := [aq lim,.bool false,v]) h1 n0w
 have hsm:=W.small
 have hd:(decide (lim-l.length<n))=false:=decide_eq_false (by omega)
 refine ⟨_,aO is109 rfl ((t109_eq _ _ _ _).trans ?_),⟨⟨v,k3,h2.aC k2 (fun b hb hc=>by subst hc;exact h3 hb),h3⟩,k2.n0▸W.n0,hNw,hsm⟩,k2.mono (fun c _ hc=>by rw [hc];exact hNw)⟩
 have l1':ba (ptr w 1) (h.set w [aq lim,.bool false,v])=some (.bool false,h.set w [aq lim,.bool false,v]):=aN k3 rfl
 unfold t109
 simp -implicitDefEqProofs only [af,eql110,aj,ay,beq_self_eq_true,aA,aJ,ax,Nat.zero_add,l1,Bool.false_eq_true,if_false,l0,l2,bO]
 rw [show (Value.int .i64 (l.length:Int))=aq l.length from rfl]
 simp -implicitDefEqProofs only [sub3 (show l.length≤lim by omega) (show lim≤9223372036854775807 by omega),aj,af,gtr3,hd,hst,aJ,ax,Nat.zero_add,l1',cC,Bool.not_false]
def fN:Nat→Nat→List Nat
 | 0,_ => []
 |n+1,v=>(v/256^n%256)::fN n v
theorem bm : ∀ n v,(fN n v).length=n
 | 0,_=>rfl
 |n+1,v=>by rw [fN,List.length_cons,bm]
theorem gW : ∀ n v,∀ x∈fN n v,x<256
 |n+1,v,x,h=>by
  rw [fN] at h
  rcases List.mem_cons.1 h with rfl|h
  ·exact Nat.mod_lt _ (by decide)
  ·exact gW n v x h
theorem is93:cA Try.prog 93 Try.f93:=⟨by kernel_rfl,by kernel_rfl,by kernel_rfl,by kernel_rfl⟩
theorem bsl1 (h:ah) (x:Nat):cX 1 (.int .u8 0) 1 [(0,u8 x)] h=some (.slice (some ⟨h.next,0,none⟩) 1 1,h.alloc [u8 x]):=rfl
theorem bytes1 (h:ah) {x:Nat} (hx:x<256):av (some ⟨h.next,0,none⟩) 1 (h.alloc [u8 x])=some [x]:=by
 have:=c9 (h:=h.alloc [u8 x]) (b:=h.next) (off:=0) (n:=1) (s:=none) (l := [x]) (by rw [ah.aE,if_pos rfl];rfl) (by simp) (by simpa using hx)
 rw [this];rfl
theorem IsW.alloc {h:ah} {N w lim:Nat} {l:List Nat} (W:IsW h N w lim l) (k:dW):IsW (h.alloc k) N w lim l:=by
 obtain ⟨v,h1,h2,h3⟩:=W.ex
 have ka:Kept h (h.alloc k) (fun _=>False):=Kept.alloc _ _ _
 exact ⟨⟨v,ka.dp h1 (fun h=>h),h2.aC ka (fun _ _ h=>h),h3⟩,W.n0,W.Nw,W.small⟩
theorem r93 {h:ah} {N w lim:Nat} {l:List Nat} (W:IsW h N w lim l) {v n:Nat} (h1n:1≤n) (hn:n≤8) (hfit:l.length+n≤lim) (_hv:v<18446744073709551616) :
  ∃ h',CD 93 [ptr w 0,.int .u64 v,aq n] h=some (.tuple #[],h')∧IsW h' N w lim (l++fN n v)∧Abv N h h':=by
 obtain ⟨h1,e1,W1,k1⟩:=r109 W hfit
 have hsm:=W.small
 have key:Fin 30 (fun ex y g=>ex = .exit 0∧IsW g N w lim (l++fN n v)∧Abv N h g)
   (iter (aI Try.prog CD (partOf Try.f93 [1,0,1,0,0])) rounds (aY 30 (up (bs [ptr w 0,.int .u64 v,aq n]) [(6,aq (n-1)),(7,ptr w 0),(8,aq n),(9,.bool true),(10,aq n),(11,aq (n-1))])) h1):=by
  refine cg (t93l93_1010_eq CD) (Inv:=fun k y g=>k≤n∧y 0=ptr w 0∧y 1 = .int .u64 v∧y 6 = .int .i64 ((k:Int)-1)∧Abv N h g ∧ ∃ cur,IsW g N w lim cur∧cur++fN k v=l++fN n v) ?_ n (by have:rounds=18446744073709551616:=rfl;omega)
   ⟨Nat.le_refl _,rfl,rfl,by show aq (n-1)=_;unfold aq;exact congrArg _ (by omega),k1,l,W1,rfl⟩
  rintro k y g ⟨hk,i0,i1,i6,hkept,cur,Wc,hcur⟩
  have hclen:cur.length+k=l.length+n:=by
   have:=congrArg List.length hcur
   simpa [bm] using this
  unfold t93l93_1010
  simp -implicitDefEqProofs only [i6,af,eR,aj]
  by_cases hz:k=0
  ·subst hz
   have hd:decide ((((0:Nat):Int)-1)≥0)=false:=by decide
   simp -implicitDefEqProofs only [hd]
   refine cY.out 0 ⟨rfl,?_,hkept⟩
   have:cur=l++fN n v:=by simpa [fN] using hcur
   rw [←this];exact Wc
  ·obtain ⟨q,rfl⟩ : ∃ q,k=q+1:=⟨k-1,by omega⟩
   have hd:decide ((((q+1:Nat):Int)-1)≥0)=true:=decide_eq_true (by omega)
   have hm8:bin Try.prog .mul 3 (.int .i64 8) (.int .i64 (((q+1:Nat):Int)-1))=some (.int .i64 ((8*q:Nat):Int)):=by
    rw [bin_mul,bD (by omega) (by omega)]
    exact congrArg (fun z=>some (Value.int .i64 z)) (by omega)
   have hsh:bin Try.prog .shr 58 (.int .u64 (v:Int)) (.int .i64 ((8*q:Nat):Int))=some (.int .u64 ((v/256^q:Nat):Int)):=by
    rw [fu Try.prog 58 (k := .u64) (k' := .i64) (b:=8*q) (by show 8*q≤64;omega)]
    rw [show (2:Nat)^(8*q)=256^q by rw [Nat.pow_mul]]
   have hcv:IntKind.wrap .u8 ((v/256^q:Nat):Int)=((v/256^q%256:Nat):Int):=by
    rw [wrap_u8_mod];omega
   have hlt8:v/256^q%256<256:=Nat.mod_lt _ (by decide)
   generalize hx:v/256^q%256=x at *
   obtain ⟨v1,v2,g1,g2,f1,f2,f3,f4,f5⟩:=w_append (c:=1) (Wc.alloc [u8 x]) (bytes1 g hlt8) (by omega)
   have hl2:ba (ptr w 2) g=some (v1,g):=by
    obtain ⟨vv,q1,q2,q3⟩:=Wc.ex
    have e1:ba (ptr w 2) g=some (vv,g):=aN q1 rfl (q2.cell.2.2)
    have e2:ba (ptr w 2) (g.alloc [u8 x])=some (vv,g.alloc [u8 x]):=aN (ah.di q1 _) rfl (q2.cell.2.2)
    rw [e2] at f1
    simp only [Option.some.injEq,Prod.mk.injEq,and_true] at f1
    rw [←f1];exact e1
   have hsub:bin Try.prog .sub 3 (.int .i64 (((q+1:Nat):Int)-1)) (.int .i64 1)=some (.int .i64 ((q:Int)-1)):=by
    rw [gZ,bD (by omega) (by omega)]
    exact congrArg (fun z=>some (Value.int .i64 z)) (by omega)
   simp -implicitDefEqProofs only [hd,i0,i1,af,aj,aJ,ax,Nat.zero_add,hl2,hm8,hsh,dg,hcv]
   rw [show (Value.int .u8 (x:Int))=u8 x from rfl,bsl1]
   simp -implicitDefEqProofs only [af,f2,aj,aJ,ax,Nat.zero_add,f3,hsub]
   refine cY.next q (by omega) ⟨by omega,i0,i1,rfl,?_,cur ++ [x],f4,?_⟩
   ·exact (hkept.trans (Kept.alloc g _ _)).trans f5
   ·rw [←hcur,fN,hx,List.append_assoc];rfl
 obtain ⟨ex,y,g,q1,rfl,q2,q3⟩:=key
 refine ⟨g,aO is93 rfl ((t93_eq _ _ _ _ _).trans ?_),q2,q3⟩
 unfold t93
 have hs1:bin Try.prog .sub 3 (aq n) (.int .i64 1)=some (aq (n-1)):=sub3 (b:=1) h1n (by omega)
 simp -implicitDefEqProofs only [af,e1,hs1,aj]
 rw [q1]
 simp -implicitDefEqProofs only [bA,b93_2,if_true]
 have hr:Try.f93.results.toList = []:=by kernel_rfl
 rw [hr];rfl
end Go.Proofs.Ytcmfgmhadeeieaa

namespace Go.Proofs.Ytcmfgmhadeeieaa
open Go Go.Abs
theorem is61:cA Try.prog 61 Try.f61:=⟨by kernel_rfl,by kernel_rfl,by kernel_rfl,by kernel_rfl⟩
theorem is62:cA Try.prog 62 Try.f62:=⟨by kernel_rfl,by kernel_rfl,by kernel_rfl,by kernel_rfl⟩
theorem is63:cA Try.prog 63 Try.f63:=⟨by kernel_rfl,by kernel_rfl,by kernel_rfl,by kernel_rfl⟩
theorem is91:cA Try.prog 91 Try.f91:=⟨by kernel_rfl,by kernel_rfl,by kernel_rfl,by kernel_rfl⟩
theorem is92:cA Try.prog 92 Try.f92:=⟨by kernel_rfl,by kernel_rfl,by kernel_rfl,by kernel_rfl⟩
theorem is94:cA Try.prog 94 Try.f94:=⟨by kernel_rfl,by kernel_rfl,by kernel_rfl,by kernel_rfl⟩
theorem is64:cA Try.prog 64 Try.f64:=⟨by kernel_rfl,by kernel_rfl,by kernel_rfl,by kernel_rfl⟩
section
variable {h:ah} {N w lim:Nat} {l:List Nat} (W:IsW h N w lim l)
include W
theorem r61 {v:Nat} (hfit:l.length+4≤lim) (hv:v<4294967296) : ∃ h',CD 61 [ptr w 0,.int .u32 v] h=some (.tuple #[],h')∧IsW h' N w lim (l++fN 4 v)∧Abv N h h':=by
 obtain ⟨h1,e1,e2,e3⟩:=r93 W (v:=v) (n:=4) (by decide) (by decide) hfit (by omega)
 have e1:CD 93 [ptr w 0,.int .u64 v,.int .i64 4] h=_:=e1
 have hw:IntKind.wrap .u64 (v:Int)=(v:Int):=eQ (by omega) (by omega)
 refine ⟨h1,aO is61 rfl ((t61_eq _ _ _ _).trans ?_),e2,e3⟩
 unfold t61
 simp -implicitDefEqProofs only [af,dg,hw,e1]
theorem r62 {v:Nat} (hfit:l.length+8≤lim) (hv:v<18446744073709551616) : ∃ h',CD 62 [ptr w 0,.int .u64 v] h=some (.tuple #[],h')∧IsW h' N w lim (l++fN 8 v)∧Abv N h h':=by
 obtain ⟨h1,e1,e2,e3⟩:=r93 W (v:=v) (n:=8) (by decide) (by decide) hfit (by omega)
 have e1:CD 93 [ptr w 0,.int .u64 v,.int .i64 8] h=_:=e1
 refine ⟨h1,aO is62 rfl ((t62_eq _ _ _ _).trans ?_),e2,e3⟩
 unfold t62
 simp -implicitDefEqProofs only [af,e1]
theorem r63 {v:Nat} (hfit:l.length+1≤lim) (hv:v<256) : ∃ h',CD 63 [ptr w 0,.int .u8 v] h=some (.tuple #[],h')∧IsW h' N w lim (l++fN 1 v)∧Abv N h h':=by
 obtain ⟨h1,e1,e2,e3⟩:=r93 W (v:=v) (n:=1) (by decide) (by decide) hfit (by omega)
 have e1:CD 93 [ptr w 0,.int .u64 v,.int .i64 1] h=_:=e1
 have hw:IntKind.wrap .u64 (v:Int)=(v:Int):=eQ (by omega) (by omega)
 refine ⟨h1,aO is63 rfl ((t63_eq _ _ _ _).trans ?_),e2,e3⟩
 unfold t63
 simp -implicitDefEqProofs only [af,dg,hw,e1]
theorem r91 {v:Nat} (hfit:l.length+2≤lim) (hv:v<65536) : ∃ h',CD 91 [ptr w 0,.int .u16 v] h=some (.tuple #[],h')∧IsW h' N w lim (l++fN 2 v)∧Abv N h h':=by
 obtain ⟨h1,e1,e2,e3⟩:=r93 W (v:=v) (n:=2) (by decide) (by decide) hfit (by omega)
 have e1:CD 93 [ptr w 0,.int .u64 v,.int .i64 2] h=_:=e1
 have hw:IntKind.wrap .u64 (v:Int)=(v:Int):=eQ (by omega) (by omega)
 refine ⟨h1,aO is91 rfl ((t91_eq _ _ _ _).trans ?_),e2,e3⟩
 unfold t91
 simp -implicitDefEqProofs only [af,dg,hw,e1]
theorem IsW.l2' {k:dW} {v:Value} (e:ba (ptr w 2) (h.alloc k)=some (v,h.alloc k)):ba (ptr w 2) h=some (v,h):=by
 obtain ⟨vv,q1,q2,q3⟩:=W.ex
 have e1:ba (ptr w 2) h=some (vv,h):=aN q1 rfl (q2.cell.2.2)
 have e2:ba (ptr w 2) (h.alloc k)=some (vv,h.alloc k):=aN (ah.di q1 _) rfl (q2.cell.2.2)
 rw [e2] at e
 simp only [Option.some.injEq,Prod.mk.injEq,and_true] at e
 rw [←e];exact e1
theorem r92 {a:Option Addr} {n c:Nat} {m:List Nat} (hm:av a n h=some m) (ha : ∀ y,a=some y→0<n→y.block<N) (hfit:l.length+(n+2)≤lim) (hn:n<65536) :
  ∃ h',CD 92 [ptr w 0,.slice a n c] h=some (.tuple #[],h')∧IsW h' N w lim (l++fN 2 n++m)∧Abv N h h':=by
 obtain ⟨h1,e1,W1,k1⟩:=r109 W (n:=n+2) hfit
 have hsm:=W.small
 have c1:(65535:Int)=((65535:Nat):Int):=rfl
 have hgt:bin Try.prog .gtr 3 (aq n) (.int .i64 65535)=some (.bool false):=by
  have:=gtr3 n 65535
  rw [decide_eq_false (by omega)] at this
  exact this
 have hadd:bin Try.prog .add 3 (aq n) (.int .i64 2)=some (aq (n+2)):=gY (b:=2) (by omega)
 have hsh:bin Try.prog .shr 3 (aq n) (.int .u64 8)=some (aq (n/256)):=fu Try.prog 3 (k := .i64) (k' := .u64) (a:=n) (b:=8) (by decide)
 have hw1:IntKind.wrap .u8 ((n/256:Nat):Int)=((n/256:Nat):Int):=wrap_u8 (by omega) (by omega)
 have hw2:IntKind.wrap .u8 ((n:Nat):Int)=((n%256:Nat):Int):=by rw [wrap_u8_mod];omega
 have hbs:cX 1 (.int .u8 0) 2 [(0,u8 (n/256)),(1,u8 (n%256))] h1=some (.slice (some ⟨h1.next,0,none⟩) 2 2,h1.alloc ([n/256,n%256].map u8)):=rfl
 have hb2:av (some ⟨h1.next,0,none⟩) 2 (h1.alloc ([n/256,n%256].map u8))=some [n/256,n%256]:=by
  have:=c9 (h:=h1.alloc ([n/256,n%256].map u8)) (b:=h1.next) (off:=0) (n:=2) (s:=none) (l := [n/256,n%256]) (by rw [ah.aE,if_pos rfl]) (by simp) (by
   intro x hx
   simp only [List.mem_cons,List.not_mem_nil,or_false] at hx
   rcases hx with rfl|rfl<;>omega)
  rw [this];rfl
 obtain ⟨v1,v2,g1,g2,f1,f2,f3,f4,f5⟩:=w_append (c:=2) (W1.alloc ([n/256,n%256].map u8)) hb2 (by omega)
 have hl2:=W1.l2' f1
 have k2:Abv N h g2:=(k1.trans (Kept.alloc h1 _ _)).trans f5
 have hm2:av a n g2=some m:=k2.bytes hm (fun y hy hn2=>by have:=ha y hy hn2;omega)
 obtain ⟨v3,v4,g3,g4,p1,p2,p3,p4,p5⟩:=w_append (c:=c) f4 hm2 (by simp only [List.length_append,List.length_cons,List.length_nil];omega)
 have hbe:fN 2 n = [n/256,n%256]:=by
  simp only [fN,Nat.pow_one,Nat.pow_zero,Nat.div_one]
  rw [Nat.mod_eq_of_lt (show n/256<256 by omega)]
 refine ⟨g4,aO is92 rfl ((t92_eq _ _ _ _).trans ?_),by rw [hbe];exact p4,k2.trans p5⟩
 unfold t92
 simp -implicitDefEqProofs only [af,eql110,aj,bO]
 rw [show (Value.int .i64 (n:Int))=aq n from rfl]
 simp -implicitDefEqProofs only [hgt,hadd,aj,af,e1,aJ,ax,Nat.zero_add,hl2,hsh]
 simp -implicitDefEqProofs only [aq,dg,hw1,hw2,af]
 rw [show (Value.int .u8 ((n/256:Nat):Int))=u8 (n/256) from rfl,show (Value.int .u8 ((n%256:Nat):Int))=u8 (n%256) from rfl,hbs]
 simp -implicitDefEqProofs only [af,f2,aj,aJ,ax,Nat.zero_add,f3,p1,p2,p3]
theorem r94 (hl:l.length≤21000) : ∃ a c h',CD 94 [ptr w 0] h=some (.tuple #[.slice a l.length c,.int .i64 0],h')∧av a l.length h'=some l∧cQ a l.length c=true∧Old h h'∧(∀ y,a=some y→h.next≤y.block):=by
 obtain ⟨v,h1,h2,h3⟩:=W.ex
 obtain ⟨a,c,hv,h4,h5,h6,h7⟩:=h2.bytes
 obtain ⟨a',c',h',e1,e2,e3,e4,e5,_⟩:=r107 (c:=c) h4 hl
 have l1:ba (ptr w 1) h=some (.bool false,h):=aN h1 rfl
 have l2:ba (ptr w 2) h=some (.slice a l.length c,h):=by rw [←hv];exact aN h1 rfl (h2.cell.2.2)
 refine ⟨a',c',h',aO is94 rfl ((t94_eq _ _ _).trans ?_),e2,e3,e4,e5⟩
 unfold t94
 simp -implicitDefEqProofs only [af,eql110,aj,aJ,ax,Nat.zero_add,l1,l2,e1]
end
def gX (l:List Nat):List Nat:=fN 4 (crcN (l++List.replicate (124-l.length) 0))++(l++List.replicate (124-l.length) 0)
theorem sealB_length {l:List Nat} (hl:l.length≤124):(gX l).length=128:=by
 simp only [gX,List.length_append,bm,List.length_replicate];omega
theorem sealB_byte {l:List Nat} (hb : ∀ x∈l,x<256) : ∀ x∈gX l,x<256:=by
 intro x hx
 simp only [gX,List.mem_append] at hx
 rcases hx with hx|hx|hx
 ·exact gW _ _ x hx
 ·exact hb x hx
 ·rw [List.eq_of_mem_replicate hx];decide
theorem crcN_lt {l:List Nat} (hb : ∀ x∈l,x<256):crcN l<4294967296:=by
 unfold crcN
 exact Nat.xor_lt_two_pow (n:=32) (by decide) (crcFold_lt l 4294967295 (by decide) hb)
theorem r64 {h:ah} {N w lim:Nat} {l:List Nat} (W:IsW h N w lim l) (hl:l.length≤124) :
  ∃ B h',CD 64 [ptr w 0] h=some (.slice (some ⟨B,0,none⟩) 128 128,h')∧av (some ⟨B,0,none⟩) 128 h'=some (gX l)∧Old h h'∧h.next≤B:=by
 obtain ⟨a,c,h1,e1,e2,e3,e4,e5⟩:=r94 W (by omega)
 have hb:=(aw e2).2.1
 have hmk:=mk1 (h:=h1) (n:=128) (c:=128) (Nat.le_refl _) (by decide)
 have hg2:(h1.alloc ((List.replicate 128 0).map u8)).get h1.next=some ((List.replicate 128 0).map u8):=by rw [ah.aE,if_pos rfl]
 have n02:(h1.alloc ((List.replicate 128 0).map u8)).n0≤h1.next:=h1.aH
 have kA:Old h1 (h1.alloc ((List.replicate 128 0).map u8)):=Kept.alloc _ _ _
 have s2:=Old.bytes kA e2
 have oA:Old h (h1.alloc ((List.replicate 128 0).map u8)):=e4.trans kA
 generalize hB:h1.next=B at *
 generalize hh2:h1.alloc ((List.replicate 128 0).map u8)=h2 at *
 have hB2:h.next≤B:=by rw [←hB];exact e4.next
 have hmin:min l.length 124=l.length:=by omega
 obtain ⟨h3,q1,q2,q3,q4,q5⟩:=copy_bytes (b:=B) (off:=4) (dl:=124) (dc:=124) (s:=none) (c:=c) hg2 n02 s2 (by simp;omega)
 generalize hR:l++List.replicate (124-l.length) 0=R at *
 have hRl:R.length=124:=by rw [←hR];simp;omega
 have hRb : ∀ x∈R,x<256:=by
  intro x hx
  rw [←hR] at hx
  rcases List.mem_append.1 hx with hx|hx
  ·exact hb x hx
  ·rw [List.eq_of_mem_replicate hx];decide
 have hsp:cJ (List.replicate 128 0) 4 (l.take (min l.length 124))=0::0::0::0::R:=by
  rw [hmin,List.take_length]
  unfold cJ
  rw [←hR,List.take_replicate,List.drop_replicate]
  show List.replicate 4 0++l++List.replicate (128-(4+l.length)) 0 = [0,0,0,0]++(l++List.replicate (124-l.length) 0)
  rw [List.append_assoc,show 128-(4+l.length)=124-l.length by omega];rfl
 rw [hsp] at q4
 have hs3:av (some ⟨B,4,none⟩) 124 h3=some R:=by
  have:=c9 (off:=4) (n:=124) (s:=none) q4 (by simp [hRl]) (by
   intro x hx
   simp only [List.mem_cons] at hx
   rcases hx with rfl|rfl|rfl|rfl|hx
   ·decide
   ·decide
   ·decide
   ·decide
   ·exact hRb x hx)
  rw [this]
  exact congrArg some (List.take_of_length_le (by show R.length≤124;omega))
 have hcrc:CD 95 [.slice (some ⟨B,4,none⟩) 124 124] h3=some (u32 (crcN R),h3):=by
  refine eO ?_
  rw [X95]
  unfold s95
  simp only [hs3]
  rfl
 have hcl:=crcN_lt hRb
 have hseal:gX l=fN 4 (crcN R)++R:=by unfold gX;rw [hR]
 generalize hC:crcN R=cr at *
 have n03:h3.n0≤B:=by rw [q2];exact n02
 have p0:=st_byte (v:=cr/16777216%256) (o:=0) q4 (by simp) n03
 have g0:=ah.bI n03 q4 (((0::0::0::0::R).set 0 (cr/16777216%256)).map u8)
 generalize hh4:h3.set B (((0::0::0::0::R).set 0 (cr/16777216%256)).map u8)=h4 at *
 have n04:h4.n0≤B:=by rw [←hh4];exact n03
 have p1:=st_byte (v:=cr/65536%256) (o:=1) g0 (by simp) n04
 have g1:=ah.bI n04 g0 ((((0::0::0::0::R).set 0 (cr/16777216%256)).set 1 (cr/65536%256)).map u8)
 generalize hh5:h4.set B ((((0::0::0::0::R).set 0 (cr/16777216%256)).set 1 (cr/65536%256)).map u8)=h5 at *
 have n05:h5.n0≤B:=by rw [←hh5];exact n04
 have p2:=st_byte (v:=cr/256%256) (o:=2) g1 (by simp) n05
 have g2:=ah.bI n05 g1 (((((0::0::0::0::R).set 0 (cr/16777216%256)).set 1 (cr/65536%256)).set 2 (cr/256%256)).map u8)
 generalize hh6:h5.set B (((((0::0::0::0::R).set 0 (cr/16777216%256)).set 1 (cr/65536%256)).set 2 (cr/256%256)).map u8)=h6 at *
 have n06:h6.n0≤B:=by rw [←hh6];exact n05
 have p3:=st_byte (v:=cr%256) (o:=3) g2 (by simp) n06
 have g3:=ah.bI n06 g2 ((((((0::0::0::0::R).set 0 (cr/16777216%256)).set 1 (cr/65536%256)).set 2 (cr/256%256)).set 3 (cr%256)).map u8)
 have hfin:((((0::0::0::0::R).set 0 (cr/16777216%256)).set 1 (cr/65536%256)).set 2 (cr/256%256)).set 3 (cr%256)=gX l:=by
  rw [hseal]
  simp only [fN,Nat.pow_zero,Nat.div_one]
  rfl
 rw [hfin] at p3 g3
 have hslb:=sealB_byte hb
 have hsll:=sealB_length hl
 generalize hh7:h6.set B ((gX l).map u8)=h7 at *
 refine ⟨B,h7,aO is64 rfl ((t64_eq _ _ _).trans ?_),?_,?_,hB2⟩
 ·have hx0 : ∀ a b:Value,aD (.tuple #[a,b]) 0=some a:=fun _ _=>rfl
  have hx1 : ∀ a b:Value,aD (.tuple #[a,b]) 1=some b:=fun _ _=>rfl
  have hmk':mkR 1 1 (.int .u8 0) (.int .i64 128) (.int .i64 128) h1=_:=hmk
  have hsl:slR 1 (.slice (some ⟨B,0,none⟩) 128 128) (some (.int .i64 4)) none none=some (.slice (some ⟨B,4,none⟩) 124 124):=rfl
  have s24:bin Try.prog .shr 113 (u32 cr) (.int .u64 24)=some (u32 (cr/16777216)):=fu Try.prog 113 (k := .u32) (k' := .u64) (a:=cr) (b:=24) (by decide)
  have s16:bin Try.prog .shr 113 (u32 cr) (.int .u64 16)=some (u32 (cr/65536)):=fu Try.prog 113 (k := .u32) (k' := .u64) (a:=cr) (b:=16) (by decide)
  have s8:bin Try.prog .shr 113 (u32 cr) (.int .u64 8)=some (u32 (cr/256)):=fu Try.prog 113 (k := .u32) (k' := .u64) (a:=cr) (b:=8) (by decide)
  have cv : ∀ (z:Nat) (g:ah),cvI .u8 (u32 z) g=some (u8 (z%256),g):=by
   intro z g
   rw [show u32 z=Value.int .u32 (z:Int) from rfl,dg,wrap_u8_mod,show u8 (z%256)=Value.int .u8 ((z%256:Nat):Int) from rfl]
   exact congrArg (fun q=>some (Value.int .u8 q,g)) (by omega)
  have i0:cd 1 (.slice (some ⟨B,0,none⟩) 128 128) (.int .i64 0)=some (ptr B 0):=rfl
  have i1:cd 1 (.slice (some ⟨B,0,none⟩) 128 128) (.int .i64 1)=some (ptr B 1):=rfl
  have i2:cd 1 (.slice (some ⟨B,0,none⟩) 128 128) (.int .i64 2)=some (ptr B 2):=rfl
  have i3:cd 1 (.slice (some ⟨B,0,none⟩) 128 128) (.int .i64 3)=some (ptr B 3):=rfl
  unfold t64
  simp -implicitDefEqProofs only [af,e1,hx0,hx1,aj,hmk',hsl,q1,hcrc,s24,s16,s8,cv,i0,i1,i2,i3,p0,p1,p2,p3]
 ·rw [c9 (off:=0) (n:=128) (s:=none) g3 (by omega) hslb,List.drop_zero,List.take_of_length_le (by omega)]
 ·refine ⟨?_,?_,?_⟩
  ·rw [←hh7,←hh6,←hh5,←hh4];exact q2.trans oA.n0
  ·rw [←hh7,←hh6,←hh5,←hh4];show h.next≤h3.next;rw [q3];exact oA.next
  ·intro e he _
   have hne:e≠B:=by omega
   have l3:B<h3.next:=h3.aR q4
   have l4:B<h4.next:=h4.aR g0
   have l5:B<h5.next:=h5.aR g1
   have l6:B<h6.next:=h6.aR g2
   rw [←hh7,ah.bE n06 l6 _ hne,←hh6,ah.bE n05 l5 _ hne,←hh5,ah.bE n04 l4 _ hne,←hh4,ah.bE n03 l3 _ hne,q5 e hne]
   exact Kept.get oA e he (fun h=>h)
end Go.Proofs.Ytcmfgmhadeeieaa

