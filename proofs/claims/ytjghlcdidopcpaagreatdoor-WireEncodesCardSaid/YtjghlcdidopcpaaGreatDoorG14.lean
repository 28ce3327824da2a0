/-
  A part of the proof, spaces and names shortened by a program (a claim may hold 1,500,000 bytes).
  Conditions: as each theorem states.
-/
import Derived.Test.YtjghlcdidopcpaaGreatDoorG13
namespace Go.Proofs.YtjghlcdidopcpaaGreatDoor
open Go Go.Abs
attribute [local congr] aP
theorem is8:bB Tryz.prog 8 Tryz.f8:=⟨by kernel_rfl,by kernel_rfl,by kernel_rfl,by kernel_rfl⟩
theorem str_nself (a:ByteArray):bin Tryz.prog .neq 9 (.string a) (.string a)=some (.bool false):=by
 unfold bin eqOk
 simp only [if_true]
 unfold binA
 simp only [ground,flat,Bool.and_self,if_true]
 have e:(binOp .neq 9 (.string a) (.string a))=pure (.bool !(a.toList==a.toList)):=rfl
 rw [e,beq_self_eq_true]
 rfl
def frL (m:aZ):List Nat:=if b9 m=true then enc m else []
def frE (m:aZ):Int:=if b9 m=true then 0 else 2
section
variable {h:ak} {s:cP} {m:aZ} (hG:4≤h.n0) (x:ej h s m)
include hG x
theorem r21u (sm:m.n.Small) : ∃ a c h',CW 21 [mv m s] h=some (.tuple #[.slice a (frL m).length c,.int .i64 (frE m)],h')∧aJ a (frL m).length h'=some (frL m)∧Old h h':=by
 unfold frL frE
 cases v:b9 m with
 |false=>
  obtain ⟨h2,e2,o2⟩:=r21_bad (h:=h) hG x sm v
  exact ⟨none,0,h2,e2,rfl,o2⟩
 |true=>
  obtain ⟨a2,c2,h2,e2,s2,_,o2,_⟩:=r21 (h:=h) hG x sm v
  exact ⟨a2,c2,h2,e2,s2,o2⟩
theorem dev8w (hz:GZ h) : ∃ h',CW 8 [mv m s] h=some (.bool true,h'):=by
 have key : ∃ h',t8 CW (mv m s) h=some (.bool true,h'):=by
  obtain ⟨h1,b1,o1,X1,A1,n1,ea⟩:=dg x
  have gb:h1.get h.next=some (m.d.cells s):=by rw [ea,ak.aM,if_pos rfl]
  have hG1:4≤h1.n0:=by rw [o1.n0];exact hG
  have hz1:=hz.bm o1
  obtain ⟨r,h2,e2,k2,o2⟩:=r18m (h:=h1) hG1 X1
  cases r with
  |true=>exact ⟨h2,by unfold t8;simp -implicitDefEqProofs only [b1, A1.all, e2, r12, ah, Bool.and_true]⟩
  |false=>
  have sm:=k2 rfl
  have L : ∀ g,Old h1 g→bP 116 (ptr h.next 0) g=some (mv m s,g):=fun g o=>(bW (X1.bm o) (Old.get o gb)).all
  have Gn : ∀ g,Old h1 g→4≤g.n0:=fun g o=>by rw [o.n0];exact hG1
  have l2:=L h2 o2
  obtain ⟨s3,h3,e3,x3,o3⟩:=r20m (h:=h2) (Gn _ o2) (X1.bm o2) sm
  have O3:=o2.trans o3
  have z3:=newZ h3
  obtain ⟨h4,e4,o4,g4,n4⟩:=var_m x3
  have O4:=O3.trans o4
  have x4:=x3.bm o4
  have V : ∀ g,Old h4 g→bP 116 (ptr h3.next 0) g=some (mv m s3,g):=fun g o=>(bW (x4.bm o) (Old.get o g4)).all
  have v4:=V h4 (Kept.refl _ _)
  obtain ⟨a5,c5,h5,e5,s5,o5⟩:=r21u (h:=h4) (Gn _ O4) x4 sm
  have O5:=O4.trans o5
  have l5:=L h5 O5
  obtain ⟨w6,h6,e6,W6,o6⟩:=r23 (h:=h5) (Gn _ O5) (hz1.bm O5) (X1.bm O5) sm
  have e6:CW 23 [mv m s] h5=some (.tuple #[w6,.int .i64 (frE m)],h6):=e6
  have W6:cM h6 h5.next w6 (frL m):=W6
  have O6:=O5.trans o6
  have k46:=o5.trans o6
  have v6:=V h6 k46
  obtain ⟨h7,e7,o7⟩:=r24 (h:=h6) (Gn _ O6) (x4.bm k46) sm
  have hl:aN (if b9 m=true then (enc m).length else 0)=aN (frL m).length:=by unfold frL;split<;>rfl
  rw [hl] at e7
  have e7:CW 24 [mv m s3] h6=some (.tuple #[aN (frL m).length,.int .i64 (frE m)],h7):=e7
  have O7:=O6.trans o7
  have k47:=k46.trans o7
  have W7:=W6.dV o7 (fun _ _ h=>h)
  obtain ⟨a6,c6,E6,T6,_⟩:=W7.bytes
  subst E6
  have t1:=cvBS_at (c:=c5) (Old.bytes (o6.trans o7) s5)
  have t2:=cvBS_at (c:=c6) T6
  have q1:bin Tryz.prog .neq 35 (.int .i64 (frE m)) (.int .i64 (frE m))=some (.bool false):=by rw [aA];simp
  have q2:=str_nself (bQ (frL m))
  have ln:bE (.slice a6 (frL m).length c6)=some (aN (frL m).length):=rfl
  have q3:bin Tryz.prog .neq 3 (aN (frL m).length) (aN (frL m).length)=some (.bool false):=by rw [neq3,decide_eq_true rfl];rfl
  have v7:=V h7 k47
  have l7:=L h7 O7
  obtain ⟨h8,e8,o8⟩:=r19 (h:=h7) (Gn _ O7) (x4.bm k47) sm
  have e8:CW 19 [mv m s3] h7=some (.int .i64 (frE m),h8):=e8
  have q4:bin Tryz.prog .eql 35 (.int .i64 (frE m)) (.int .i64 0)=some (.bool (b9 m)):=by
   unfold frE
   cases b9 m<;>rfl
  have O8:=O7.trans o8
  have l8:=L h8 O8
  obtain ⟨h9,e9,o9⟩:=r25 (h:=h8) (Gn _ O8) (hz1.bm O8) (X1.bm O8) sm
  have O9:=O8.trans o9
  have q5:bin Tryz.prog .neq 4 (.bool (b9 m)) (.bool (b9 m))=some (.bool false):=by rw [neq_bool];cases b9 m<;>rfl
  have l9:=L h9 O9
  obtain ⟨h10,e10,o10⟩:=r25 (h:=h9) (Gn _ O9) (hz1.bm O9) (X1.bm O9) sm
  have O10:=O9.trans o10
  have k410:=k47.trans ((o8.trans o9).trans o10)
  have v10:=V h10 k410
  obtain ⟨h11,e11,o11⟩:=r19 (h:=h10) (Gn _ O10) (x4.bm k410) sm
  have e11:CW 19 [mv m s3] h10=some (.int .i64 (frE m),h11):=e11
  have ck : ∀ g,cF true (some (mv m s,g)) (mv m s)=true:=fun g=>fK rfl (veqM x.sl (aZ.ok x.wf))
  have fin : ∀ g,Old h1 g→Old h4 g → ∃ h',(
    let g13_0:=g
    ae (bP 116 (ptr h3.next 0) g13_0) fun y69 g13_1=>
    ae (CW 26 [y69] g13_1) fun y70 g13_2=>
    ae (bP 116 (ptr h.next 0) g13_2) fun y71 g13_3=>
    ae (CW 27 [y71] g13_3) fun y72 g13_4=>
    ae (pu (bin Tryz.prog .eql 9 y70 y72) g13_4) fun y73 g13_5=>
    ae (some (y73,g13_5)) fun y74 g13_6=>
    ae (al (aH y74==some true) (bP 116 (ptr h3.next 0) g13_6) g13_6) fun y75 g13_7=>
    ae (al (aH y74==some true) (bP 116 (ptr h.next 0) g13_7) g13_7) fun y76 g13_8=>
    ae (al (aH y74==some true) (CW 15 [y75,y76] g13_8) g13_8) fun y77 g13_9=>
    ae (match y74 with | .bool t=>some (if t then y77 else (.bool false),g13_9)|_=>none) fun y78 g13_10=>
    ae (some (y78,g13_10)) fun y79 g13_11=>
    ae (al (aH y79==some true) (CW 12 [] g13_11) g13_11) fun y80 g13_12=>
    ae (match y79 with | .bool t=>some (if t then y80 else (.bool false),g13_12)|_=>none) fun y81 g13_13=>
    ae (some (y81,g13_13)) fun y2_1 g13_14=>
    (match (cF true (bP 116 (ptr h.next 0) g13_1) y71&&true) with
    |true=>
    let h:=g13_14
    some (y2_1,h)
    |false=>none))=some (.bool true,h'):=fun g K K4=>by
   have va:=V g K4
   have la:=L g K
   obtain ⟨ha,ea,oa⟩:=r26 (h:=g) (Gn _ K) (x4.bm K4) sm
   have lb:=L ha (K.trans oa)
   obtain ⟨hb,eb,ob⟩:=r27 (h:=ha) (Gn _ (K.trans oa)) (X1.bm (K.trans oa)) (hz1.bm (K.trans oa)) sm
   have Kb:=(K.trans oa).trans ob
   have K4b:=(K4.trans oa).trans ob
   have lc:=L hb Kb
   have vc:=V hb K4b
   have qs:=str_self (bQ (descL m))
   obtain ⟨hc,ec,oc⟩:=r15m (h:=hb) (Gn _ Kb) (x4.bm K4b) (X1.bm Kb) sm
   rw [decide_eq_true rfl] at ec
   refine ⟨hc,?_⟩
   simp -implicitDefEqProofs only [va, ea, lb, eb, qs, vc, lc, ec, r12, la, ck, ah, aq, ar, beq_self_eq_true, aj, if_true, Bool.and_self]
  unfold t8
  cases hv:b9 m with
  |true=>
   rw [hv] at q4 e9 q5 e10
   obtain ⟨h',ef⟩:=fin h10 O10 k410
   refine ⟨h',?_⟩
   simp -implicitDefEqProofs only [b1, A1.all, e2, l2, e3, z3, e4, v4, e5, l5, e6, v6, e7, q1, t1, t2, q2, ln, q3, v7, e8, q4, l8, e9, q5, l9, e10, l7, ck, ah, aq, ar, fs, beq_self_eq_true, aj, ai, Bool.false_eq_true, if_false, Bool.not_true, au, Bool.and_true, bM, bN]
   simp -implicitDefEqProofs only [ah, Bool.and_true] at ef
   exact ef
  |false=>
   have q6:bin Tryz.prog .neq 35 (.int .i64 (frE m)) (.int .i64 2)=some (.bool false):=by
    unfold frE
    rw [hv]
    rfl
   rw [hv] at q4 e9 q5 e10
   obtain ⟨h',ef⟩:=fin h11 (O10.trans o11) (k410.trans o11)
   refine ⟨h',?_⟩
   simp -implicitDefEqProofs only [b1, A1.all, e2, l2, e3, z3, e4, v4, e5, l5, e6, v6, e7, q1, t1, t2, q2, ln, q3, v7, e8, q4, l8, e9, q5, l9, e10, l7, ck, v10, e11, q6, ah, aq, ar, beq_self_eq_true, aj, Bool.false_eq_true, if_false, if_true, Bool.not_false, au, Bool.and_true, bM, bN]
   simp -implicitDefEqProofs only [ah, Bool.and_true] at ef
   exact ef
 obtain ⟨h',e⟩:=key
 exact ⟨h',aG is8 hG rfl ((t8_eq _ _ _).trans e)⟩
end
theorem dev8 {h:ak} {s:cP} {m:aZ} (hG:4≤h.n0) (hz:GZ h) (x:ej h s m) : ∃ h',CW 8 [mv m s] h=some (.bool true,h'):=dev8w hG x hz
end Go.Proofs.YtjghlcdidopcpaaGreatDoor

