/-
  A part of the proof, spaces and names shortened by a program (a claim may hold 1,500,000 bytes).
  Conditions: as each theorem states.
-/
import Derived.Test.YtjghlcdidopcpaaGreatDoorG12
namespace Go.Proofs.YtjghlcdidopcpaaGreatDoor
open Go Go.Abs
attribute [local congr] aP
theorem bu:(aH undef==some true)=false:=rfl
theorem bu2:(aH undef==some false)=false:=rfl
def v1B (m:aZ):Bool:=if m.kind≤3 then eA m.origin&&eA m.target&&tableB m.table else true
def v2B (m:aZ):Bool:=decide (m.low.length≤34)&&decide (m.high.length≤34)&&decide (0≤m.count)&&decide (m.count≤1048576)&&decide (m.bC.length≤64)&&decide (0≤m.code)&&decide (m.code≤999)
def v3B (m:aZ):Bool := !(m.bC.any fun r => !eW r)
def v4B (m:aZ):Bool:=if (m.kind==8||m.kind==10)=true then !dp m&&decide (m.cg≥0)&&decide (m.cg<m.gt)&&decide (m.data.length≤8192) else true
structure V25 (b:Nat) (s:cP) (m:aZ) (x:Nat→Value) (g:ak):Prop where
 hG:4≤g.n0
 hz:GZ g
 x1:x 1=ptr b 0
 gb:g.get b=some (m.d.cells s)
 hm:ej g s m
section
variable {b:Nat} {s:cP} {m:aZ} {x:Nat→Value} {g:ak}
theorem V25.go (V:V25 b s m x g) {x':Nat→Value} {g':ak} (e:x' 1=x 1) (o:Old g g'):V25 b s m x' g':=⟨by rw [o.n0];exact V.hG,V.hz.bm o,e.trans V.x1,Old.get o V.gb,V.hm.bm o⟩
theorem V25.ld (V:V25 b s m x g):MLd g b s m:=bW V.hm V.gb
theorem ld78 {h h1:ak} (y:ej h1 s m) (g:h.get b=some (m.d.cells s)):aK (ptr b 78) h=some (.int .i64 m.gt,h):=
 bf g (cQ (A:=m.d.front s) 68 rfl (cQ (A:=bI m.root) 36 (by rw [b6 y.wf.root]) (cQ (A := [s.d,.bool m.b7]) 34 rfl (cQ (A:=bI m.obj) 2 (by rw [b6 y.wf.obj]) rfl)))) rfl
theorem s25_6 (x:Nat→Value) (g:ak):k25s6 CW (aX 142 x) g=some (.bool true,g):=by
 rw [t25s6_eq]
 rfl
theorem s25_5 (V:V25 b s m x g) : ∃ h',k25s5 CW (aX 142 x) g=some (.bool (v4B m),h')∧Old g h':=by
 have A:=V.ld
 have ln:=V.hm.len
 rw [t25s5_eq]
 unfold t25s5 v4B
 have q8:bin Tryz.prog .eql 24 (.int .u8 (m.kind:Int)) (.int .u8 8)=some (.bool ((m.kind:Int)==8)):=ay ..
 have q10:bin Tryz.prog .eql 24 (.int .u8 (m.kind:Int)) (.int .u8 10)=some (.bool ((m.kind:Int)==10)):=ay ..
 have i8:((m.kind:Int)==8)=(m.kind==8):=by rw [Bool.eq_iff_iff];simp only [beq_iff_eq];omega
 have i10:((m.kind:Int)==10)=(m.kind==10):=by rw [Bool.eq_iff_iff];simp only [beq_iff_eq];omega
 rw [i8] at q8
 rw [i10] at q10
 have lq:bin Tryz.prog .leq 3 (aN m.data.length) (.int .i64 8192)=some (.bool (decide (m.data.length≤8192))):=by
  unfold aN
  rw [aC]
  congr 2
  exact decide_eq_decide.2 (by omega)
 obtain ⟨h1,e1,o1⟩:=r63 V.hG V.hm
 have A1:=(V.go (x':=x) rfl o1).ld
 have l78:=ld78 V.hm (Old.get o1 V.gb)
 have ln1:=ln.2.2.2.2.2
 have fin : ∀ c:(m.kind==8||m.kind==10)=true,∃ h',(ae (pu (az (x 1) 0) g) fun y109 h=>ae (some (undef,h)) fun _ h=>some (undef,h))=(ae (pu (az (x 1) 0) g) fun y109 h=>ae (some (undef,h)) fun _ h=>some (undef,h))∧Old g h':=fun _=>⟨g,rfl,Kept.refl _ _⟩
 clear fin
 cases c8:m.kind==8 with
 |true=>
  rw [Bool.true_or,if_pos rfl]
  cases p0:dp m with
  |true=>
   exact ⟨h1,by simp -implicitDefEqProofs only [V.x1, A.l0, q8, c8, A.bR, e1, ah, aq, ar, fs, sf, ai, Bool.false_eq_true, if_false, if_true, ao, Nat.zero_add, Bool.not_true, p0, Bool.false_and, Bool.not_true],o1⟩
  |false=>
  cases p1:decide (m.cg≥0) with
  |false=>
  exact ⟨h1,by simp -implicitDefEqProofs only [V.x1, A.l0, q8, c8, A.bR, e1, p0, A1.aT, ah, aq, ar, fs, sf, beq_self_eq_true, aj, ai, Bool.false_eq_true, if_false, if_true, ao, Nat.zero_add, Nat.reduceAdd, Bool.not_false, aB, p1, Bool.and_false, Bool.false_and, Bool.not_false],o1⟩
  |true=>
  cases p2:decide (m.cg<m.gt) with
  |false=>
  exact ⟨h1,by simp -implicitDefEqProofs only [V.x1, A.l0, q8, c8, A.bR, e1, p0, A1.aT, l78, ah, aq, ar, fs, sf, beq_self_eq_true, aj, ai, Bool.false_eq_true, if_false, if_true, ao, Nat.zero_add, Nat.reduceAdd, Bool.not_false, aB, aD, p1, p2, Bool.and_true, Bool.and_false, Bool.false_and, Bool.not_false],o1⟩
  |true=>
  cases p3:decide (m.data.length≤8192) with
  |false=>
  exact ⟨h1,by simp -implicitDefEqProofs only [V.x1, A.l0, q8, c8, A.bR, e1, p0, A1.aT, l78, A1.aR, ln1, lq, ah, aq, ar, sf, beq_self_eq_true, aj, ai, if_true, ao, Nat.zero_add, Nat.reduceAdd, Bool.not_false, aB, aD, p1, p2, p3, Bool.and_true, Bool.and_false, Bool.not_false],o1⟩
  |true=>
  exact ⟨h1,by simp -implicitDefEqProofs only [V.x1, A.l0, q8, c8, A.bR, e1, p0, A1.aT, l78, A1.aR, ln1, lq, ah, aq, ar, sf, beq_self_eq_true, aj, ai, if_true, ao, Nat.zero_add, Nat.reduceAdd, Bool.not_false, aB, aD, p1, p2, p3, Bool.and_true, Bool.not_false],o1⟩
 |false=>
 cases c10:m.kind==10 with
 |true=>
  rw [Bool.false_or,if_pos rfl]
  cases p0:dp m with
  |true=>
   exact ⟨h1,by simp -implicitDefEqProofs only [V.x1, A.l0, q8, c8, q10, c10, A.bR, e1, ah, aq, ar, fs, beq_self_eq_true, aj, ai, Bool.false_eq_true, if_false, ao, Nat.zero_add, Bool.not_true, p0, Bool.false_and, Bool.not_true],o1⟩
  |false=>
  cases p1:decide (m.cg≥0) with
  |false=>
  exact ⟨h1,by simp -implicitDefEqProofs only [V.x1, A.l0, q8, c8, q10, c10, A.bR, e1, p0, A1.aT, ah, aq, ar, fs, beq_self_eq_true, aj, ai, Bool.false_eq_true, if_false, if_true, ao, Nat.zero_add, Nat.reduceAdd, Bool.not_false, aB, p1, Bool.and_false, Bool.false_and, Bool.not_false],o1⟩
  |true=>
  cases p2:decide (m.cg<m.gt) with
  |false=>
  exact ⟨h1,by simp -implicitDefEqProofs only [V.x1, A.l0, q8, c8, q10, c10, A.bR, e1, p0, A1.aT, l78, ah, aq, ar, fs, beq_self_eq_true, aj, ai, Bool.false_eq_true, if_false, if_true, ao, Nat.zero_add, Nat.reduceAdd, Bool.not_false, aB, aD, p1, p2, Bool.and_true, Bool.and_false, Bool.false_and, Bool.not_false],o1⟩
  |true=>
  cases p3:decide (m.data.length≤8192) with
  |false=>
  exact ⟨h1,by simp -implicitDefEqProofs only [V.x1, A.l0, q8, c8, q10, c10, A.bR, e1, p0, A1.aT, l78, A1.aR, ln1, lq, ah, aq, ar, beq_self_eq_true, aj, Bool.false_eq_true, if_false, if_true, ao, Nat.zero_add, Nat.reduceAdd, Bool.not_false, aB, aD, p1, p2, p3, Bool.and_true, Bool.and_false, Bool.not_false],o1⟩
  |true=>
  exact ⟨h1,by simp -implicitDefEqProofs only [V.x1, A.l0, q8, c8, q10, c10, A.bR, e1, p0, A1.aT, l78, A1.aR, ln1, lq, ah, aq, ar, beq_self_eq_true, aj, Bool.false_eq_true, if_false, if_true, ao, Nat.zero_add, Nat.reduceAdd, Bool.not_false, aB, aD, p1, p2, p3, Bool.and_true, Bool.not_false],o1⟩
 |false=>
  rw [Bool.false_or,if_neg (by decide)]
  exact ⟨g,by simp -implicitDefEqProofs only [V.x1, A.l0, q8, c8, q10, c10, ah, aq, ar, beq_self_eq_true, aj, Bool.false_eq_true, if_false, ao, Nat.zero_add, s25_6],Kept.refl _ _⟩
theorem b25_exit (C:av) (e:Env) (h:ak):b25_8 C 0 e h=k25s5 C e h:=rfl
theorem results25:Tryz.f25.results.toList = [.tmp 2]:=by kernel_rfl
def vlInv (g0:ak) (b:Nat) (s:cP) (m:aZ) (k:Nat) (y:Nat→Value) (g:ak):Prop:=
 ∃ i,i+k=m.bC.length∧y 3=aN i∧V25 b s m y g∧Old g0 g∧(m.bC.take i).any (fun r => !eW r)=false
def vlFin (g0:ak) (b:Nat) (s:cP) (m:aZ) (ex:Ex) (y:Nat→Value) (g:ak):Prop:=
 Old g0 g∧((ex = .ret∧y 2 = .bool false∧m.bC.any (fun r => !eW r)=true)∨(ex = .exit 0∧m.bC.any (fun r => !eW r)=false∧V25 b s m y g))
theorem vlRound {g0:ak} (hl:m.bC.length≤1000000) : ∀ k y g,vlInv g0 b s m k y g→dw 142 (vlInv g0 b s m) (vlFin g0 b s m) k (fM CW y g):=by
 rintro k y g ⟨i,hik,y3,V,o,ha⟩
 have A:=V.ld
 have ln:=V.hm.len.2.2.2.1
 unfold fM
 by_cases hi:i<m.bC.length
 ·obtain ⟨b',q,kb,_,a1,_,_,_,a2,_⟩:=V.hm.sl.d.at hi
  obtain ⟨r,hr⟩ : ∃ r,m.bC[i]? = some r:=⟨m.bC[i],List.getElem?_eq_getElem hi⟩
  have w:=V.hm.wf.bC r (List.mem_of_getElem? hr)
  have a1:cD 39 s.d (aN i)=some (ptr b' (q+i*39)):=a1
  have a2:bP 39 (ptr b' (q+i*39)) g=some (.agg (el 39 (m.bC.flatMap recC) i).toArray,g):=a2
  rw [el_flat150 V.hm.wf.bC hr] at a2
  obtain ⟨g',e,o'⟩:=r62 V.hG V.hz w
  have hs:(m.bC.take (i+1)).any (fun r => !eW r) = !eW r:=by
   rw [List.take_add_one,hr,List.any_append,ha]
   simp
  cases hp:eW r with
  |true=>
   rw [hp] at e
   simp -implicitDefEqProofs only [y3, V.x1, A.bF, ln, dI, decide_eq_true hi, a1, a2, e, ah, aq, ao, Nat.zero_add, Bool.not_true, au, eT (show i+1≤9223372036854775807 by omega)]
   exact dw.next (k-1) (by omega) ⟨i+1,by omega,rfl,V.go rfl o',o.trans o',by rw [hs,hp];rfl⟩
  |false=>
   rw [hp] at e
   simp -implicitDefEqProofs only [y3, V.x1, A.bF, ln, dI, decide_eq_true hi, a1, a2, e, ah, aq, ao, Nat.zero_add, Bool.not_false, au]
   refine dw.ret ⟨o.trans o',.inl ⟨rfl,rfl,?_⟩⟩
   rw [List.any_eq_true]
   exact ⟨r,List.mem_of_getElem? hr,by rw [hp];rfl⟩
 ·simp -implicitDefEqProofs only [y3, V.x1, A.bF, ln, dI, decide_eq_false hi, ah, aq, ao, Nat.zero_add]
  refine dw.out 0 ⟨o,.inr ⟨rfl,?_,V.go rfl (Kept.refl _ _)⟩⟩
  rw [List.take_of_length_le (by omega)] at ha
  exact ha
theorem s25_4 (hl:m.bC.length≤1000000) (V:V25 b s m x g) : ∃ h',k25s4 CW (aX 142 x) g=some (.bool (v3B m&&v4B m),h')∧Old g h':=by
 rw [t25s4_eq]
 unfold t25s4
 rw [ah]
 refine cy (Q:=fun o:Out => ∃ h',o=some (Value.bool (v3B m&&v4B m),h')∧Old g h') (cn (t25l25_1111010_eq CW) (vlRound (g0:=g) (b:=b) (s:=s) (m:=m) hl) m.bC.length (by have:rounds=18446744073709551616:=rfl;omega)
  ⟨0,Nat.zero_add _,rfl,V.go rfl (Kept.refl _ _),Kept.refl _ _,rfl⟩) ?_
 rintro ex z g' ⟨o,⟨rfl,z2,ha⟩|⟨rfl,ha,V'⟩⟩
 ·unfold v3B
  rw [eL,fv results25 (by decide),z2,ha]
  exact ⟨g',rfl,o⟩
 ·unfold v3B
  rw [bG,b25_exit,ha]
  obtain ⟨h',e,o'⟩:=s25_5 V'
  exact ⟨h',e,o.trans o'⟩
theorem s25_3 (hl:m.bC.length≤1000000) (V:V25 b s m x g) : ∃ h',k25s3 CW (aX 142 x) g=some (.bool (v2B m&&(v3B m&&v4B m)),h')∧Old g h':=by
 have A:=V.ld
 obtain ⟨-,ln1,ln2,ln3,-,-⟩:=V.hm.len
 have gt : ∀ a k:Nat,bin Tryz.prog .gtr 3 (aN a) (.int .i64 (k:Int))=some (.bool !(decide (a≤k))):=fun a k=>by
  rw [gtr3,←decide_not]
  congr 2
  exact decide_eq_decide.2 (by omega)
 have g1:bin Tryz.prog .gtr 3 (aN m.low.length) (.int .i64 34)=some (.bool !(decide (m.low.length≤34))):=gt _ 34
 have g2:bin Tryz.prog .gtr 3 (aN m.high.length) (.int .i64 34)=some (.bool !(decide (m.high.length≤34))):=gt _ 34
 have g3:bin Tryz.prog .gtr 3 (aN m.bC.length) (.int .i64 64)=some (.bool !(decide (m.bC.length≤64))):=gt _ 64
 have neg : ∀ (t:TypeId) (a k:Int),bin Tryz.prog .lss t (.int .i64 a) (.int .i64 k)=some (.bool !(decide (k≤a))):=fun t a k=>by
  rw [aD,←decide_not]
  congr 2
  exact decide_eq_decide.2 (by omega)
 have pos : ∀ (t:TypeId) (a k:Int),bin Tryz.prog .gtr t (.int .i64 a) (.int .i64 k)=some (.bool !(decide (a≤k))):=fun t a k=>by
  rw [aE,←decide_not]
  congr 2
  exact decide_eq_decide.2 (by omega)
 have n1:=neg 3 m.count 0
 have n2:=pos 3 m.count 1048576
 have n3:=neg 35 m.code 0
 have n4:=pos 35 m.code 999
 rw [t25s3_eq]
 unfold t25s3 v2B
 cases p1:decide (m.low.length≤34) with
 |false=>
  exact ⟨g,by simp -implicitDefEqProofs only [V.x1, A.l7, ln1, g1, ah, aq, ar, sf, ai, if_true, ao, Nat.zero_add, Bool.not_false, p1, Bool.false_and, Bool.not_false],Kept.refl _ _⟩
 |true=>
 cases p2:decide (m.high.length≤34) with
 |false=>
  exact ⟨g,by simp -implicitDefEqProofs only [V.x1, A.l7, A.l8, ln1, ln2, g1, g2, ah, aq, ar, sf, beq_self_eq_true, aj, ai, Bool.false_eq_true, if_false, if_true, ao, Nat.zero_add, Bool.not_true, Bool.not_false, p1, p2, Bool.and_false, Bool.false_and, Bool.not_true, Bool.not_false],Kept.refl _ _⟩
 |true=>
 cases p3:decide (0≤m.count) with
 |false=>
  exact ⟨g,by simp -implicitDefEqProofs only [V.x1, A.l7, A.l8, A.l9, ln1, ln2, g1, g2, n1, ah, aq, ar, sf, beq_self_eq_true, aj, ai, Bool.false_eq_true, if_false, if_true, ao, Nat.zero_add, Bool.not_true, Bool.not_false, p1, p2, p3, Bool.and_true, Bool.and_false, Bool.false_and, Bool.not_true, Bool.not_false],Kept.refl _ _⟩
 |true=>
 cases p4:decide (m.count≤1048576) with
 |false=>
  exact ⟨g,by simp -implicitDefEqProofs only [V.x1, A.l7, A.l8, A.l9, ln1, ln2, g1, g2, n1, n2, ah, aq, ar, sf, beq_self_eq_true, aj, ai, Bool.false_eq_true, if_false, if_true, ao, Nat.zero_add, Bool.not_true, Bool.not_false, p1, p2, p3, p4, Bool.and_true, Bool.and_false, Bool.false_and, Bool.not_true, Bool.not_false],Kept.refl _ _⟩
 |true=>
 cases p5:decide (m.bC.length≤64) with
 |false=>
  exact ⟨g,by simp -implicitDefEqProofs only [V.x1, A.l7, A.l8, A.l9, A.bF, ln1, ln2, ln3, g1, g2, g3, n1, n2, ah, aq, ar, sf, beq_self_eq_true, aj, ai, Bool.false_eq_true, if_false, if_true, ao, Nat.zero_add, Bool.not_true, Bool.not_false, p1, p2, p3, p4, p5, Bool.and_true, Bool.and_false, Bool.false_and, Bool.not_true, Bool.not_false],Kept.refl _ _⟩
 |true=>
 cases p6:decide (0≤m.code) with
 |false=>
  exact ⟨g,by simp -implicitDefEqProofs only [V.x1, A.l7, A.l8, A.l9, A.bF, A.aU, ln1, ln2, ln3, g1, g2, g3, n1, n2, n3, ah, aq, ar, sf, beq_self_eq_true, aj, ai, Bool.false_eq_true, if_false, if_true, ao, Nat.zero_add, Bool.not_true, Bool.not_false, p1, p2, p3, p4, p5, p6, Bool.and_true, Bool.and_false, Bool.false_and, Bool.not_true, Bool.not_false],Kept.refl _ _⟩
 |true=>
 cases p7:decide (m.code≤999) with
 |false=>
  exact ⟨g,by simp -implicitDefEqProofs only [V.x1, A.l7, A.l8, A.l9, A.bF, A.aU, ln1, ln2, ln3, g1, g2, g3, n1, n2, n3, n4, ah, aq, ar, beq_self_eq_true, aj, Bool.false_eq_true, if_false, ao, Nat.zero_add, Bool.not_true, Bool.not_false, p1, p2, p3, p4, p5, p6, p7, Bool.and_true, Bool.and_false, Bool.false_and, Bool.not_true, Bool.not_false],Kept.refl _ _⟩
 |true=>
 simp -implicitDefEqProofs only [V.x1, A.l7, A.l8, A.l9, A.bF, A.aU, ln1, ln2, ln3, g1, g2, g3, n1, n2, n3, n4, ah, aq, ar, beq_self_eq_true, aj, Bool.false_eq_true, if_false, ao, Nat.zero_add, Bool.not_true, p1, p2, p3, p4, p5, p6, p7, Bool.and_true, Bool.true_and, Bool.not_true]
 exact s25_4 hl (V.go rfl (Kept.refl _ _))
theorem s25_2 (hl:m.bC.length≤1000000) (V:V25 b s m x g) : ∃ h',k25s2 CW (aX 142 x) g=some (.bool (v1B m&&(v2B m&&(v3B m&&v4B m))),h')∧Old g h':=by
 have A:=V.ld
 have e1:=r59 V.hG m.origin
 have e2:=r59 V.hG m.target
 obtain ⟨h3,e3,o3⟩:=r61 V.hG V.hm.sl.a V.hm.wf.table
 have e3:CW 61 [s.a] g=_:=e3
 have q3:bin Tryz.prog .leq 24 (.int .u8 (m.kind:Int)) (.int .u8 3)=some (.bool (decide (m.kind≤3))):=by
  rw [aC]
  congr 2
  exact decide_eq_decide.2 (by omega)
 have go3 : ∀ y,y 1=x 1 → ∃ h',k25s3 CW (aX 142 y) h3=some (.bool (v2B m&&(v3B m&&v4B m)),h')∧Old g h':=fun y hy=>by
  obtain ⟨h',e,o⟩:=s25_3 hl (V.go hy o3)
  exact ⟨h',e,o3.trans o⟩
 rw [t25s2_eq]
 unfold t25s2 v1B
 by_cases c:m.kind≤3
 ·rw [if_pos c]
  rw [decide_eq_true c] at q3
  cases p1:eA m.origin with
  |false=>
   exact ⟨g,by simp -implicitDefEqProofs only [V.x1, A.l0, q3, A.l4, e1, ah, aq, ar, sf, beq_self_eq_true, aj, ai, if_true, ao, Nat.zero_add, Bool.not_false, au, p1, Bool.false_and, Bool.not_false],Kept.refl _ _⟩
  |true=>
  cases p2:eA m.target with
  |false=>
   exact ⟨g,by simp -implicitDefEqProofs only [V.x1, A.l0, q3, A.l4, A.l5, e1, e2, ah, aq, ar, sf, beq_self_eq_true, aj, ai, Bool.false_eq_true, if_false, if_true, ao, Nat.zero_add, Bool.not_true, Bool.not_false, au, p1, p2, Bool.and_false, Bool.false_and, Bool.not_true, Bool.not_false],Kept.refl _ _⟩
  |true=>
  cases p3:tableB m.table with
  |false=>
   exact ⟨h3,by simp -implicitDefEqProofs only [V.x1, A.l0, q3, A.l4, A.l5, A.l6, e1, e2, e3, ah, aq, ar, beq_self_eq_true, aj, Bool.false_eq_true, if_false, if_true, ao, Nat.zero_add, Bool.not_true, Bool.not_false, au, p1, p2, p3, Bool.and_true, Bool.and_false, Bool.false_and, Bool.not_true, Bool.not_false],o3⟩
  |true=>
  simp -implicitDefEqProofs only [V.x1, A.l0, q3, A.l4, A.l5, A.l6, e1, e2, e3, ah, aq, ar, beq_self_eq_true, aj, Bool.false_eq_true, if_false, if_true, ao, Nat.zero_add, Bool.not_true, au, p1, p2, p3, Bool.and_true, Bool.true_and, Bool.not_true]
  exact go3 _ rfl
 ·rw [if_neg c]
  rw [decide_eq_false c] at q3
  simp -implicitDefEqProofs only [V.x1, A.l0, q3, ah, aq, ar, fs, ai, Bool.false_eq_true, if_false, ao, Nat.zero_add, bu2, Bool.true_and]
  exact s25_3 hl (V.go rfl (Kept.refl _ _))
end
theorem cast34 (n:Nat):decide ((n:Int)≤34)=decide (n≤34):=decide_eq_decide.2 (by omega)
theorem cast64 (n:Nat):decide ((n:Int)≤64)=decide (n≤64):=decide_eq_decide.2 (by omega)
theorem cast8192 (n:Nat):decide ((n:Int)≤8192)=decide (n≤8192):=decide_eq_decide.2 (by omega)
theorem rest_eq {m:aZ} (hk:cq m.kind=true) (e:m=fullM m):(v1B m&&(v2B m&&(v3B m&&v4B m)))=chkB m.kind m:=by
 obtain ⟨k,fr,to,sq,og,tg,ct,rt,wt,ob,gk,gn,gt,gs,mo,pi,co,tb,lo,hi,rc,pc,da⟩:=m
 rcases kinds hk with h|h|h|h|h|h|h|h|h|h|h|h|h<;>(have h:k=_:=h;subst h;rw [aZ.mk.injEq] at e)
 all_goals obtain ⟨e1,e2,e3,e4,e5,e6,e7,e8,e9,e10,e11,e12,e13,e14,e15,e16,e17,e18,e19,e20,e21,e22,e23⟩:=e
 all_goals simp only [fullM,stripM,sPing,sReq,sSum,sItems,sObj,sPiece,sStored,aZ.z] at e1 e2 e3 e4 e5 e6 e7 e8 e9 e10 e11 e12 e13 e14 e15 e16 e17 e18 e19 e20 e21 e22 e23
 all_goals unfold v1B v2B v3B v4B chkB
 all_goals simp only
 ·subst e19 e20 e7 e17 e21;simp [tabB]
 ·subst e19 e20 e7 e17 e21;simp [tabB]
 ·subst e19 e20 e7 e17 e21;simp [tabB]
 ·subst e17;unfold rangeB;rw [cast34,cast34,cast64];simp
 ·subst e17 e7;unfold rangeB;rw [cast34,cast34,cast64];simp
 ·subst e19 e20 e7 e17 e21;simp
 ·subst e19 e20 e7 e17 e21;simp
 ·subst e19 e20 e7 e17 e21;simp [pceB,cast8192]
 ·subst e19 e20 e7 e17 e21;simp
 ·subst e19 e20 e7 e17 e21;simp [pceB,cast8192]
 ·subst e19 e20 e7 e21;simp [codeB]
 ·subst e19 e20 e7 e17 e21;simp
 ·subst e19 e20 e7 e17 e21;simp
theorem is25:bB Tryz.prog 25 Tryz.f25:=⟨by kernel_rfl,by kernel_rfl,by kernel_rfl,by kernel_rfl⟩
section
variable {h:ak} {s:cP} {m:aZ} (hG:4≤h.n0) (hz:GZ h) (x:ej h s m) (sm:m.n.Small)
include hG hz x sm
set_option maxRecDepth 100000 in
theorem r25 : ∃ h',CW 25 [mv m s] h=some (.bool (b9 m),h')∧Old h h':=by
 have key : ∃ h',k25s0 CW (aX 142 (bs [mv m s])) h=some (.bool (b9 m),h')∧Old h h':=by
  obtain ⟨h1,b1,o1,x1,A1,n1,-⟩:=dg x
  have hG1:4≤h1.n0:=by rw [o1.n0];exact hG
  have V1 : ∀ y g,y 1=ptr h.next 0→Old h1 g→V25 h.next s m y g:=fun y g hy o=>⟨by rw [o.n0];exact hG1,(hz.bm o1).bm o,hy,Old.get o A1.g,x1.bm o⟩
  rw [t25s0_eq]
  unfold t25s0
  rw [show bs [mv m s] 0=mv m s from rfl]
  simp -implicitDefEqProofs only [b1,ah]
  have go1 : ∀ y,y 1=ptr h.next 0 → ∃ h',k25s1 CW (aX 142 y) h1=some (.bool (b9 m),h')∧Old h h':=by
   intro y y1
   have q1:bin Tryz.prog .lss 24 (.int .u8 (m.kind:Int)) (.int .u8 1)=some (.bool (decide (m.kind<1))):=by
    rw [aD]
    congr 2
    exact decide_eq_decide.2 (by omega)
   have q2:bin Tryz.prog .gtr 24 (.int .u8 (m.kind:Int)) (.int .u8 13)=some (.bool (decide (13<m.kind))):=by
    rw [aE]
    congr 2
    exact decide_eq_decide.2 (by omega)
   have e3:=r59 hG1 m.from_
   have e4:=r59 hG1 m.eu
   have q5:bin Tryz.prog .eql 3 (.int .i64 m.from_) (.int .i64 m.eu)=some (.bool (m.from_==m.eu)):=ay ..
   have ckf : ∀ o v,cF false o v=true:=fun _ _=>rfl
   have bt : ∀ b:Bool,(aH (.bool b)==some false) = !b:=fun b=>by cases b<;>rfl
   rw [t25s1_eq]
   unfold t25s1 b9
   by_cases c1:m.kind<1
   ·rw [decide_eq_true c1] at q1
    have hk:cq m.kind=false:=by
     unfold cq
     have h0:m.kind=0:=by omega
     rw [h0];rfl
    rw [hk]
    exact ⟨h1,by simp -implicitDefEqProofs only [y1, A1.l0, q1, ckf, ah, aq, ar, sf, ai, if_true, ao, Nat.zero_add, Bool.and_true, Bool.false_and],o1⟩
   rw [decide_eq_false c1] at q1
   by_cases c2:13<m.kind
   ·rw [decide_eq_true c2] at q2
    have hk:cq m.kind=false:=by
     unfold cq
     rw [Bool.and_eq_false_iff]
     right
     cases h:Nat.ble m.kind 13 with
     |false=>rfl
     |true=>have:=Nat.le_of_ble_eq_true h;omega
    rw [hk]
    exact ⟨h1,by simp -implicitDefEqProofs only [y1, A1.l0, q1, q2, ckf, ah, aq, ar, sf, beq_self_eq_true, aj, ai, Bool.false_eq_true, if_false, if_true, ao, Nat.zero_add, Bool.and_true, Bool.false_and],o1⟩
   rw [decide_eq_false c2] at q2
   have hk:cq m.kind=true:=by
    unfold cq
    rw [Bool.and_eq_true]
    exact ⟨Nat.ble_eq_true_of_le (by omega),Nat.ble_eq_true_of_le (by omega)⟩
   rw [hk]
   cases p3:eA m.from_ with
   |false=>exact ⟨h1,by simp -implicitDefEqProofs only [y1, A1.l0, A1.l1, e3, p3, q1, q2, ckf, ah, aq, ar, sf, beq_self_eq_true, aj, ai, Bool.false_eq_true, if_false, if_true, ao, Nat.zero_add, Bool.not_false, au, Bool.and_true, Bool.and_false, Bool.false_and, Bool.not_false],o1⟩
   |true=>
   cases p4:eA m.eu with
   |false=>exact ⟨h1,by simp -implicitDefEqProofs only [y1, A1.l0, A1.l1, A1.l2, e3, p3, e4, p4, q1, q2, ckf, ah, aq, ar, sf, beq_self_eq_true, aj, ai, Bool.false_eq_true, if_false, if_true, ao, Nat.zero_add, Bool.not_true, Bool.not_false, au, Bool.and_true, Bool.and_false, Bool.false_and, Bool.not_true, Bool.not_false],o1⟩
   |true=>
   cases p5:m.from_==m.eu with
   |true=>exact ⟨h1,by simp -implicitDefEqProofs only [y1, A1.l0, A1.l1, A1.l2, e3, p3, e4, p4, q5, p5, q1, q2, ckf, ah, aq, ar, sf, beq_self_eq_true, aj, ai, Bool.false_eq_true, if_false, if_true, ao, Nat.zero_add, Bool.not_true, au, Bool.and_true, Bool.and_false, Bool.false_and, Bool.not_true],o1⟩
   |false=>
   obtain ⟨s2,h2,e6,x2,o2⟩:=r60 hG1 x1 hk
   have A2:=bW (x1.bm o2) (Old.get o2 A1.g)
   obtain ⟨h3,e7,o3⟩:=r15m (h:=h2) (by rw [o2.n0];exact hG1) (x1.bm o2) x2 sm
   have ck:=fK A2.all (veqM x.sl (aZ.ok x.wf))
   have o13:=o2.trans o3
   by_cases c6:m=fullM m
   ·rw [decide_eq_true c6] at e7 ⊢
    rw [←rest_eq hk c6]
    have go2 : ∀ y',y' 1=ptr h.next 0 → ∃ h',k25s2 CW (aX 142 y') h3=some (.bool (v1B m&&(v2B m&&(v3B m&&v4B m))),h')∧Old h h':=fun y' hy=>by
     obtain ⟨h',e,o⟩:=s25_2 sm.d (V1 y' h3 hy o13)
     exact ⟨h',e,o1.trans (o13.trans o)⟩
    simp -implicitDefEqProofs only [y1, A1.l0, A1.l1, A1.l2, A1.all, e3, p3, e4, p4, q5, p5, q1, q2, e6, e7, ck, ah, aq, ar, beq_self_eq_true, aj, Bool.false_eq_true, if_false, ao, Nat.zero_add, Bool.not_true, Bool.not_false, au, Bool.and_true, Bool.true_and, Bool.not_true, Bool.not_false]
    exact go2 _ y1
   ·rw [decide_eq_false c6] at e7 ⊢
    refine ⟨h3,?_,o1.trans o13⟩
    simp -implicitDefEqProofs only [y1, A1.l0, A1.l1, A1.l2, A1.all, e3, p3, e4, p4, q5, p5, q1, q2, e6, e7, ck, ah, aq, ar, beq_self_eq_true, aj, Bool.false_eq_true, if_false, ao, Nat.zero_add, Bool.not_true, Bool.not_false, au, Bool.and_true, Bool.true_and, Bool.and_false, Bool.not_true, Bool.not_false]
  exact go1 _ rfl
 obtain ⟨h',e,o⟩:=key
 exact ⟨h',aG is25 hG rfl ((t25_eq _ _ _).trans e),o⟩
end
end Go.Proofs.YtjghlcdidopcpaaGreatDoor

namespace Go.Proofs.YtjghlcdidopcpaaGreatDoor
open Go Go.Abs
attribute [local congr] aP
theorem db (k:IntKind) (n:Int) (h:ak):cF true (some (.int k n,h)) (.int k n)=true:=by simp [cF,same,fa]
section
variable {h h1:ak} {a:Option Addr} {n c:Nat} {l:List Nat} {y:Nat→Value}
end
end Go.Proofs.YtjghlcdidopcpaaGreatDoor

namespace Go.Proofs.YtjghlcdidopcpaaGreatDoor
open Go Go.Abs
attribute [local congr] aP
section
variable {h h1:ak} {a:Option Addr} {n c:Nat} {l:List Nat} {y:Nat→Value}
variable {V:Nat} {m:Man}
end
end Go.Proofs.YtjghlcdidopcpaaGreatDoor

namespace Go.Proofs.YtjghlcdidopcpaaGreatDoor
open Go Go.Abs
attribute [local congr] aP
section
variable {h0:ak} {N:Nat} {q:aZ} {sl:cP} {c:Cu} {x:Nat→Value} {g:ak}
end
section
variable {h0:ak} {N:Nat} {q:aZ} {sl:cP} {c:Cu} {x:Nat→Value} {g:ak}
end
end Go.Proofs.YtjghlcdidopcpaaGreatDoor

namespace Go.Proofs.YtjghlcdidopcpaaGreatDoor
open Go Go.Abs
attribute [local congr] aP
section
variable {h0:ak} {N:Nat} {q:aZ} {sl:cP} {c:Cu} {x:Nat→Value} {g:ak}
end
end Go.Proofs.YtjghlcdidopcpaaGreatDoor

namespace Go.Proofs.YtjghlcdidopcpaaGreatDoor
open Go Go.Abs
attribute [local congr] aP
section
variable {h0:ak} {N:Nat} {q:aZ} {sl:cP} {c:Cu} {x:Nat→Value} {g:ak}
end
end Go.Proofs.YtjghlcdidopcpaaGreatDoor

namespace Go.Proofs.YtjghlcdidopcpaaGreatDoor
open Go Go.Abs
def de (s:Rd) (c:Cu):Prop:=(s.e=0∧c.bad=false∧s.l=c.l)∨(s.e≠0∧c.bad=true)
end Go.Proofs.YtjghlcdidopcpaaGreatDoor

namespace Go.Proofs.YtjghlcdidopcpaaGreatDoor
open Go Go.Abs
attribute [local congr] aP
structure E14 (h g:ak) (a:Option Addr) (n c:Nat) (l:List Nat) (y:Nat→Value):Prop where
 hG:4≤h.n0
 hz:GZ h
 hl:aJ a n h=some l
 hg:10≤n→goodS a n c=true
 hn:n≤1000000
 o1:Old h g
 g1:g.get h.next=some Zl
 y0:y 0 = .slice a n c
 y2:y 2=ptr h.next 0
section
variable {h g:ak} {a:Option Addr} {n c:Nat} {l:List Nat} {y:Nat→Value}
structure K14 (h g:ak) (a:Option Addr) (n c:Nat) (l:List Nat) (y:Nat→Value) (V:Nat) (m:aZ) (sl:cP):Prop where
 E:E14 h g a n c l y
 y6:y 6=ptr V 0
 gV:g.get V=some (m.d.cells sl)
 hm:ej g sl m
 hV:h.next<V
variable {V:Nat} {m:aZ} {sl:cP}
variable {W:Nat} {q:Cu}
end
end Go.Proofs.YtjghlcdidopcpaaGreatDoor

namespace Go.Proofs.YtjghlcdidopcpaaGreatDoor
open Go Go.Abs
attribute [local congr] aP
theorem bytesL (h:ak) {l:List Nat} (hb:Bys l):aJ (some ⟨h.next,0,none⟩) l.length (h.alloc (bI l))=some l:=by
 have:=dZ (h:=h.alloc (bI l)) (b:=h.next) (off:=0) (n:=l.length) (s:=none) (l:=l) (by rw [ak.aM,if_pos rfl]) (by simp) hb
 rw [this,List.drop_zero,List.take_of_length_le (Nat.le_refl _)]
theorem cM.weak {h:ak} {N M:Nat} {v:Value} {l:List Nat} (o:cM h N v l) (hM:M≤N):cM h M v l:=by
 obtain ⟨⟨h1,h2,h3,h4⟩,hb⟩:=o
 refine ⟨⟨h1,h2,h3,?_⟩,hb⟩
 rcases h4 with h4|⟨b,s,e,h5,h6⟩
 ·exact .inl h4
 ·exact .inr ⟨b,s,e,by omega,h6⟩
theorem append_lit {h:ak} {b off n k c:Nat} {a:Option Addr} {l m:List Nat} (hl:aJ (some ⟨b,off,none⟩) n h=some l) (hm:aJ a k h=some m) (hk:0<k) (hb:n+k≤100000000) :
  ∃ v' h',aO 1 1 (.slice (some ⟨b,off,none⟩) n n) (.slice a k c) h=some (v',h')∧cM h' h.next v' (l++m)∧Old h h':=by
 obtain ⟨l1,lb,_⟩:=ba hl
 obtain ⟨m1,mb,_⟩:=ba hm
 have f1:=firstA_of hl (Nat.le_refl n) (c:=n)
 rw [List.take_of_length_le (by omega)] at f1
 have f2:=firstA_of hm (Nat.le_refl k) (c:=c)
 rw [List.take_of_length_le (by omega)] at f2
 refine ⟨.slice (some ⟨h.next,0,some 1⟩) (n+k) (n+k),h.alloc (bI l++bI m),?_,⟨⟨?_,?_,?_,.inr ⟨h.next,some 1,?_,Nat.le_refl _,.inr ⟨rfl,?_⟩⟩⟩,?_⟩,Kept.alloc _ _ _⟩
 ·unfold aO
  simp only [show lenA (.slice a k c)=some k from rfl,f1,f2]
  have c1:((!(aS (m.map u8)) || !(decide ((n+k)*1≤140737488355328)) || !(decide (n+k≤4611686018427387904))||decide ((m.map u8).length≠k*1))=true)↔False:=by
   rw [one_u8,decide_eq_true (by omega),decide_eq_true (by omega),decide_eq_false (by simp;omega)]
   simp
  rw [if_neg (by rw [c1];exact id),if_neg (by omega),if_neg (by simp;omega)]
 ·simp
 ·rw [List.map_append];exact noHoles_append _ _ (noHoles_u8 _) (noHoles_u8 _)
 ·rw [List.map_append];exact oneCells_append _ _ (one_u8 _) (one_u8 _)
 ·rw [List.length_append,l1,m1]
 ·rw [ak.aM,if_pos rfl,List.map_append]
 ·intro x hx
  rcases List.mem_append.1 hx with hx|hx
  ·exact lb x hx
  ·exact mb x hx
theorem app_sl {h0 g:ak} {v:Value} {l m:List Nat} {a:Option Addr} {n c:Nat} (K:Old h0 g) (o:cM g h0.next v l) (hm:aJ a n g=some m) (hb:l.length+n≤100000000) : ∃ v' g2,aO 1 1 v (.slice a n c) g=some (v',g2)∧cM g2 h0.next v' (l++m)∧Old h0 g2:=by
 obtain ⟨v',g2,e1,e2,k,_⟩:=append_ownB o (by rw [K.n0];exact h0.bg) K.next hm hb (c:=c)
 exact ⟨v',g2,e1,e2,K.also k (fun d hd e=>by have:=o.own.base e;omega)⟩
theorem ep {h0 g g1:ak} {v w:Value} {l m:List Nat} {N:Nat} (K:Old h0 g) (o:cM g h0.next v l) (o1:Old g g1) (ow:cM g1 N w m) (hb:l.length+m.length≤100000000) : ∃ v' g2,aO 1 1 v w g1=some (v',g2)∧cM g2 h0.next v' (l++m)∧Old h0 g2:=by
 obtain ⟨a,c,rfl,s,_,_⟩:=ow.bytes
 exact app_sl (K.trans o1) (o.dV o1 (fun _ _ h=>h)) s hb
theorem app_one {h0 g:ak} {v:Value} {l:List Nat} {x:Nat} (K:Old h0 g) (o:cM g h0.next v l) (hx:x<256) (hb:l.length+1≤100000000) : ∃ v' g2,aO 1 1 v (.slice (some ⟨g.next,0,none⟩) 1 1) (g.alloc [u8 x])=some (v',g2)∧cM g2 h0.next v' (l ++ [x])∧Old h0 g2:=by
 have ka:Old g (g.alloc [u8 x]):=Kept.alloc _ _ _
 exact app_sl (c:=1) (K.trans ka) (o.dV ka (fun _ _ h=>h)) (bytes1 g hx) hb
theorem beB1 {x:Nat} (h:x<256):cG 1 x = [x]:=by simp [cG,Nat.mod_eq_of_lt h]
theorem is87:bB Tryz.prog 87 Tryz.f87:=⟨by kernel_rfl,by kernel_rfl,by kernel_rfl,by kernel_rfl⟩
theorem is88:bB Tryz.prog 88 Tryz.f88:=⟨by kernel_rfl,by kernel_rfl,by kernel_rfl,by kernel_rfl⟩
theorem is89:bB Tryz.prog 89 Tryz.f89:=⟨by kernel_rfl,by kernel_rfl,by kernel_rfl,by kernel_rfl⟩
theorem is123:bB Tryz.prog 123 Tryz.f123:=⟨by kernel_rfl,by kernel_rfl,by kernel_rfl,by kernel_rfl⟩
theorem r87 {h:ak} (hG:4≤h.n0) {a:Option Addr} {n c:Nat} {l:List Nat} (hl:aJ a n h=some l) (hn:n≤1000000) : ∃ v h',CW 87 [.slice a n c] h=some (v,h')∧cM h' h.next v (text l)∧Old h h':=by
 obtain ⟨w,h1,e1,o1,k1⟩:=r58 h hG (n:=n) (k:=2) (by decide) (by decide) (by omega)
 have e1:CW 58 [.int .u64 (n:Int),.int .i64 2] h=_:=e1
 obtain ⟨v,h2,e2,o2,k2⟩:=app_sl (h0:=h) (c:=c) k1 o1 (Old.bytes k1 hl) (by rw [aF];omega)
 have hln:bE (.slice a n c)=some (aN n):=rfl
 have cv:dU .u64 (aN n) h=some (.int .u64 (n:Int),h):=by
  unfold aN
  rw [bX,eY (by omega) (by omega)]
 have hlen:=(ba hl).1
 refine ⟨v,h2,aG is87 hG rfl ((t87_eq _ _ _).trans ?_),?_,k2⟩
 ·unfold t87
  simp -implicitDefEqProofs only [hln, cv, e1, e2, ah, aq]
 ·unfold text
  rw [hlen]
  exact o2
theorem r123 {h:ak} (hG:4≤h.n0) (b:Bool):CW 123 [.bool b] h=some (.int .u64 ((bit b:Nat):Int),h):=by
 refine aG is123 hG rfl ((t123_eq _ _ _).trans ?_)
 unfold t123
 cases b<;>rfl
theorem cv8i (k:IntKind) (x:Int) (h:ak):dU .u8 (.int k x) h=some (u8 (i8 x),h):=by rw [bX,fL]
theorem chkU (x:Nat) (h:ak):cF true (some (u8 x,h)) (u8 x)=true:=db .u8 _ _
theorem enc3 (a b c:Nat) (ha:a<256) (hb:b<256) (hc:c<256):cG 1 a++(cG 1 b++cG 1 c) = [a,b,c]:=by rw [beB1 ha,beB1 hb,beB1 hc];rfl
theorem bsl3 (h:ak) (x y z:Nat):dD 1 (.int .u8 0) 3 [(0,u8 x),(1,u8 y),(2,u8 z)] h=some (.slice (some ⟨h.next,0,none⟩) 3 3,h.alloc (bI [x,y,z])):=rfl
set_option maxRecDepth 100000 in
theorem r88 {h:ak} (hG:4≤h.n0) (hz:GZ h) {r:cx} (w:r.Wf) (hv:eW r=true) : ∃ v h',CW 88 [.agg (recC r).toArray] h=some (.tuple #[v,.int .i64 0],h')∧cM h' h.next v (dL r)∧Old h h':=by
 have cr:=eg w
 have b1:box (.agg (recC r).toArray) h=some (ptr h.next 0,h.alloc (recC r)):=c9 h _ cr.2.2
 have o1:Old h (h.alloc (recC r)):=Kept.alloc _ _ _
 have g1:(h.alloc (recC r)).get h.next=some (recC r):=by rw [ak.aM,if_pos rfl]
 have n1:(h.alloc (recC r)).next=h.next+1:=ak.cA ..
 generalize h.alloc (recC r)=h1 at *
 have L : ∀ g,Old h1 g→RLd g h.next r:=fun g o=>r_ld w (Old.get o g1)
 have A1:=L h1 (Kept.refl _ _)
 obtain ⟨h2,e2,o2⟩:=r62 (h:=h1) (by rw [o1.n0];exact hG) (hz.bm o1) w
 rw [hv] at e2
 have A2:=L h2 o2
 have O2:=o1.trans o2
 have ha:=arr32 h.next 1
 have hs2 : ∀ g,Old h1 g→aJ (some ⟨h.next,1,none⟩) 32 g=some r.obj:=fun g o=>by
  have:=bK (s:=none) (Old.get o g1) (show recC r = [.int .u8 (r.kind:Int)]++(bI r.obj ++ [.int .i64 r.cC,.int .u64 (r.inc:Int),.int .u64 (r.num:Int),.bool r.held,.int .i64 r.k,.int .i64 r.n]) from rfl) rfl w.obj.2
  rw [w.obj.1] at this
  exact this
 have b3:=bsl1 h2 r.kind
 have ka:Old h2 (h2.alloc [u8 r.kind]):=Kept.alloc _ _ _
 obtain ⟨v4,h4,e4,O4,k4⟩:=append_lit (c:=32) (bytes1 h2 w.kind) (hs2 _ (o2.trans ka)) (by decide) (by decide)
 have K4:=(o2.trans ka).trans k4
 have O4:=O4.weak (M:=h1.next) (Nat.le_trans o2.next ka.next)
 have A4:=L h4 K4
 have cv1:=cv8i .i64 r.cC h4
 have b5:=bsl1 h4 (i8 r.cC)
 obtain ⟨v5,h5,e5,O5,K5⟩:=app_one (h0:=h1) K4 O4 (cX r.cC) (by simp [w.obj.1])
 have A5:=L h5 K5
 have G5:4≤h5.n0:=by rw [K5.n0,o1.n0];exact hG
 obtain ⟨w6,h6,e6,W6,k6⟩:=r58 h5 G5 (n:=r.inc) (k:=8) (by decide) (by decide) w.inc
 have e6:CW 58 [.int .u64 (r.inc:Int),.int .i64 8] h5=_:=e6
 obtain ⟨v7,h7,e7,O7,K7⟩:=ep K5 O5 k6 W6 (by simp [w.obj.1,aF])
 have A6:=L h6 (K5.trans k6)
 have A7:=L h7 K7
 have G7:4≤h7.n0:=by rw [K7.n0,o1.n0];exact hG
 obtain ⟨w8,h8,e8,W8,k8⟩:=r58 h7 G7 (n:=r.num) (k:=8) (by decide) (by decide) w.num
 have e8:CW 58 [.int .u64 (r.num:Int),.int .i64 8] h7=_:=e8
 obtain ⟨v9,h9,e9,O9,K9⟩:=ep K7 O7 k8 W8 (by simp [w.obj.1,aF])
 have A9:=L h9 K9
 have G9:4≤h9.n0:=by rw [K9.n0,o1.n0];exact hG
 have e10:=r123 G9 r.held
 have hbit:=bit_lt r.held
 have cvb:dU .u8 (.int .u64 ((bit r.held:Nat):Int)) h9=some (u8 (bit r.held),h9):=by rw [bX,wrap_u8 (by omega) (by omega)]
 have cvk:=cv8i .i64 r.k h9
 have cvn:=cv8i .i64 r.n h9
 have b11:=bsl3 h9 (bit r.held) (i8 r.k) (i8 r.n)
 have ka9:Old h9 (h9.alloc (bI [bit r.held,i8 r.k,i8 r.n])):=Kept.alloc _ _ _
 have hb3:Bys [bit r.held,i8 r.k,i8 r.n]:=fun x hx=>by
  simp only [List.mem_cons,List.not_mem_nil,or_false] at hx
  rcases hx with rfl|rfl|rfl
  ·omega
  ·exact cX _
  ·exact cX _
 obtain ⟨v12,h12,e12,O12,K12⟩:=app_sl (c:=3) (K9.trans ka9) (O9.dV ka9 (fun _ _ h=>h)) (bytesL h9 hb3) (by simp [w.obj.1,aF])
 have e12:aO 1 1 v9 (.slice (some ⟨h9.next,0,none⟩) 3 3) (h9.alloc (bI [bit r.held,i8 r.k,i8 r.n]))=some (v12,h12):=e12
 have cku1:=chkU (i8 r.k) h9
 have cku2:=chkU (i8 r.n) h9
 refine ⟨v12,h12,aG is88 hG rfl ((t88_eq _ _ _).trans ?_),?_,o1.trans K12⟩
 ·unfold t88
  simp -implicitDefEqProofs only [b1, A1.all, e2, A2.l0, ha, b3, e4, A4.l33, cv1, b5, e5, A5.l34, e6, e7, A7.l35, A5.l35, A6.l35, e8, e9, A9.dP, e10, cvb, A9.l37, A9.l38, cvk, cvn, b11, e12, db, cku1, cku2, ah, aq, Bool.not_true, au, Bool.and_true, Bool.and_self, ao, Nat.zero_add]
 ·have O12:=O12.weak (M:=h.next) (by omega)
  have ee:dL r=((((([r.kind]++r.obj) ++ [i8 r.cC])++cG 8 r.inc)++cG 8 r.num) ++ [bit r.held,i8 r.k,i8 r.n]):=by
   unfold dL
   rw [beB1 w.kind,beB1 (cX _),enc3 _ _ _ (by omega) (cX _) (cX _)]
   simp only [List.append_assoc]
  rw [ee]
  exact O12
end Go.Proofs.YtjghlcdidopcpaaGreatDoor

namespace Go.Proofs.YtjghlcdidopcpaaGreatDoor
open Go Go.Abs
attribute [local congr] aP
theorem b89_exit (C:av) (e:Env) (h:ak):b89_8 C 0 e h=k89_6 C e h:=rfl
def mhInv (h1:ak) (b:Nat) (L:List Nat) (t:List (List Nat)) (k:Nat) (y:Nat→Value) (g:ak):Prop:=
 ∃ i,i+k=t.length∧y 1=ptr b 0∧y 5=aN i∧Old h1 g∧cM g h1.next (y 4) (L++(t.take i).flatMap id)
def mhFin (h1:ak) (L:List Nat) (t:List (List Nat)) (ex:Ex) (y:Nat→Value) (g:ak):Prop:=
 ex = .exit 0∧Old h1 g∧cM g h1.next (y 4) (L++t.flatMap id)
theorem mhRound {h1:ak} {b:Nat} {L:List Nat} {s:cP} {m:aZ} (x:ej h1 s m) (gb:h1.get b=some (m.d.dv s)) (ht:m.gt=(m.pieces.length:Nat)) (hl:m.pieces.length≤255) (hL:L.length≤100) :
  ∀ k y g,mhInv h1 b L m.pieces k y g→dw 46 (mhInv h1 b L m.pieces) (mhFin h1 L m.pieces) k (fJ CW y g):=by
 rintro k y g ⟨i,hik,y1,y5,K,O⟩
 have A:=fB (x.sl.bm K) (aZ.ok x.wf) (Old.get K gb)
 have l2:aK (ptr b 2) g=some (aN m.pieces.length,g):=by
  have:aK (ptr b 2) g=some (.int .i64 m.gt,g):=A.l2
  rw [ht] at this
  exact this
 unfold fJ
 by_cases hi:i<m.pieces.length
 ·obtain ⟨bb,q,kb,_,a1,_,_,_,a2,_⟩:=(x.sl.e.bm K).at hi
  obtain ⟨p,hm⟩ : ∃ p,m.pieces[i]? = some p:=⟨m.pieces[i],List.getElem?_eq_getElem hi⟩
  have wm:=x.wf.pieces p (List.mem_of_getElem? hm)
  have a1:cD 32 s.e (aN i)=some (ptr bb (q+i*32)):=a1
  have a2:bP 32 (ptr bb (q+i*32)) g=some (.agg (el 32 (m.pieces.flatMap bI) i).toArray,g):=a2
  rw [el_dig x.wf.pieces hm] at a2
  have hlen:((m.pieces.take i).flatMap id).length=i*32:=by
   rw [eZ (f:=id) (z:=32) _ (fun a ha=>(x.wf.pieces a (List.mem_of_mem_take ha)).1),List.length_take,Nat.min_eq_left (by omega)]
  obtain ⟨g1,z1,o1,q1,n1⟩:=fresh (List.replicate 32 (.int .u8 0)) g
  have p1:g1.n0≤g.next:=by rw [o1.n0];exact g.bg
  obtain ⟨g2,t2,k2,q2,_,n2⟩:=dr (n:=32) (k':=bI p) q1 p1 rfl (b6 wm) (u8s_ok p).2
  have o2:Old g g2:=Old.of_new o1 k2 (Nat.le_refl _)
  have sb:aJ (some ⟨g.next,0,none⟩) p.length g2=some p:=bK (A := []) (C := []) q2 (by simp) rfl wm.2
  rw [wm.1] at sb
  obtain ⟨v',g3,e3,O3,K3⟩:=app_sl (c:=32) (K.trans o2) (O.dV o2 (fun _ _ h=>h)) sb (by rw [List.length_append,hlen];omega)
  simp -implicitDefEqProofs only [y5, y1, l2, dI, decide_eq_true hi, A.dP, a1, a2, z1, t2, arr32, e3, eT (show i+1≤9223372036854775807 by omega), ah, aq, ao, Nat.zero_add]
  refine dw.next (k-1) (by omega) ⟨i+1,by omega,y1,rfl,K3,?_⟩
  rw [flat_snoc hm,←List.append_assoc]
  exact O3
 ·simp -implicitDefEqProofs only [y5, y1, l2, dI, decide_eq_false hi, ah, aq, ao, Nat.zero_add]
  refine dw.out 0 ⟨rfl,K,?_⟩
  rw [List.take_of_length_le (by omega)] at O
  exact O
theorem bsl7 (h:ak) (a b c d e:Nat):dD 1 (.int .u8 0) 7 [(0,.int .u8 77),(1,.int .u8 1),(2,u8 a),(3,u8 b),(4,u8 c),(5,u8 d),(6,u8 e)] h=some (.slice (some ⟨h.next,0,none⟩) 7 7,h.alloc (bI [77,1,a,b,c,d,e])):=rfl
set_option maxRecDepth 100000 in
theorem r89 {h:ak} {s:cP} {m:aZ} (hG:4≤h.n0) (x:ej h s m) (v:dp m=false) : ∃ w h',CW 89 [gv m s] h=some (.tuple #[w,.int .i64 0],h')∧cM h' h.next w (dS m)∧Old h h':=by
 have mo:=man_ok x.sl (aZ.ok x.wf)
 obtain ⟨v1,v2,v3,v4,v5,v6,v7⟩:=man_fine v
 obtain ⟨h1,b1,o1,g1,n1⟩ : ∃ h1,box (gv m s) h=some (ptr h.next 0,h1)∧Old h h1∧h1.get h.next=some (m.d.dv s)∧h1.next=h.next+1:=
  ⟨_,c9 h (m.d.dv s) mo.2.1,Kept.alloc _ _ _,by rw [ak.aM,if_pos rfl],rfl⟩
 have hG1:4≤h1.n0:=by rw [o1.n0];exact hG
 have l37:bP 37 (ptr h.next 0) h1=some (gv m s,h1):=ldN_all g1 mo.2.2 mo.1
 obtain ⟨h2,e2,o2⟩:=r63 hG1 (x.bm o1)
 rw [v] at e2
 have e2:CW 63 [gv m s] h1=some (.bool true,h2):=e2
 have A2:=fB (x.sl.bm (o1.trans o2)) (aZ.ok x.wf) (Old.get o2 g1)
 have l0:aK (ptr h.next 0) h2=some (.int .i64 m.gk,h2):=A2.l0
 have l1:aK (ptr h.next 1) h2=some (.int .i64 m.gn,h2):=A2.l1
 have l2:aK (ptr h.next 2) h2=some (.int .i64 m.gt,h2):=A2.l2
 have l3:aK (ptr h.next 3) h2=some (.int .i64 m.gs,h2):=A2.l3
 have sh:bin Tryz.prog .shr 3 (.int .i64 m.gs) (.int .u64 8)=some (.int .i64 ((i16 m.gs/256:Nat):Int)):=by
  have h0:m.gs=((m.gs.toNat:Nat):Int):=by omega
  have:=eF Tryz.prog 3 (k := .i64) (k' := .u64) (a:=m.gs.toNat) (b:=8) (by decide)
  rw [←h0] at this
  rw [show i16 m.gs=m.gs.toNat by unfold i16;omega]
  exact this
 have c0:=cv8i .i64 m.gk h2
 have c1:=cv8i .i64 m.gn h2
 have c2:=cv8i .i64 m.gt h2
 have c3:=cv8i .i64 ((i16 m.gs/256:Nat):Int) h2
 have c4:=cv8i .i64 m.gs h2
 have b3:=bsl7 h2 (i8 m.gk) (i8 m.gn) (i8 m.gt) (i8 ((i16 m.gs/256:Nat):Int)) (i8 m.gs)
 have hb7:Bys [77,1,i8 m.gk,i8 m.gn,i8 m.gt,i8 ((i16 m.gs/256:Nat):Int),i8 m.gs]:=fun z hz=>by
  simp only [List.mem_cons,List.not_mem_nil,or_false] at hz
  rcases hz with rfl|rfl|rfl|rfl|rfl|rfl|rfl
  ·decide
  ·decide
  ·exact cX _
  ·exact cX _
  ·exact cX _
  ·exact cX _
  ·exact cX _
 have s3:=bytesL h2 hb7
 have ka:Old h2 (h2.alloc (bI [77,1,i8 m.gk,i8 m.gn,i8 m.gt,i8 ((i16 m.gs/256:Nat):Int),i8 m.gs])):=Kept.alloc _ _ _
 have sm:aJ (some ⟨h.next,4,none⟩) 32 (h2.alloc (bI [77,1,i8 m.gk,i8 m.gn,i8 m.gt,i8 ((i16 m.gs/256:Nat):Int),i8 m.gs]))=some m.cp:=by
  have:=bK (s:=none) (Old.get (o2.trans ka) g1) (show m.d.dv s = [.int .i64 m.gk,.int .i64 m.gn,.int .i64 m.gt,.int .i64 m.gs]++(bI m.cp ++ [s.e]) from rfl) rfl x.wf.cp.2
  rw [x.wf.cp.1] at this
  exact this
 have hpre:dS m=([77,1,i8 m.gk,i8 m.gn,i8 m.gt,i8 ((i16 m.gs/256:Nat):Int),i8 m.gs]++m.cp)++m.pieces.flatMap id:=by
  unfold dS
  have e1:cG 2 19713 = [77,1]:=by decide
  have e2:cG 2 (i16 m.gs) = [i8 ((i16 m.gs/256:Nat):Int),i8 m.gs]:=by
   have:=i16_lt m.gs
   simp only [cG,Nat.pow_one,Nat.pow_zero,Nat.div_one]
   refine List.cons_eq_cons.2 ⟨?_,List.cons_eq_cons.2 ⟨?_,rfl⟩⟩
   ·unfold i8;omega
   ·unfold i8 i16;omega
  rw [e1,e2,beB1 (cX _),beB1 (cX _),beB1 (cX _)]
  simp only [List.cons_append, List.nil_append]
 generalize hd : [77,1,i8 m.gk,i8 m.gn,i8 m.gt,i8 ((i16 m.gs/256:Nat):Int),i8 m.gs]=D at *
 have hD:D.length=7:=by rw [←hd];rfl
 rw [hD] at s3
 obtain ⟨v4,h4,e4,O4,k4⟩:=append_lit (c:=32) s3 sm (by decide) (by decide)
 have O4:=O4.weak (M:=h1.next) (Nat.le_trans o2.next ka.next)
 have K4:=(o2.trans ka).trans k4
 have key : ∃ w h',t89 CW (gv m s) h=some (.tuple #[w,.int .i64 0],h')∧cM h' h1.next w ((D++m.cp)++m.pieces.flatMap id)∧Old h1 h':=by
  unfold t89
  simp -implicitDefEqProofs only [b1, l37, e2, l0, l1, l2, l3, c0, c1, c2, sh, c3, c4, b3, arr32, e4, ah, aq, Bool.not_true, au, ao, Nat.zero_add]
  refine cy (Q:=fun o:Out => ∃ w h',o=some (Value.tuple #[w,.int .i64 0],h')∧cM h' h1.next w ((D++m.cp)++m.pieces.flatMap id)∧Old h1 h')
   (cn (t89l89_1111010_eq CW) (mhRound (h1:=h1) (b:=h.next) (L:=D++m.cp) (s:=s) (m:=m) (x.bm o1) g1 v7.symm (by omega) (by rw [List.length_append,hD,x.wf.cp.1];decide)) m.pieces.length (by have:rounds=18446744073709551616:=rfl;omega)
   ⟨0,Nat.zero_add _,rfl,rfl,K4,by rw [List.take_zero,List.flatMap_nil,List.append_nil];exact O4⟩) ?_
  rintro ex z g ⟨rfl,K,O⟩
  rw [bG,b89_exit,t89k89_6_eq]
  unfold t89k89_6
  exact ⟨_,g,rfl,O,K⟩
 obtain ⟨w,h',e,O,K⟩:=key
 refine ⟨w,h',aG is89 hG rfl ((t89_eq _ _ _).trans e),?_,o1.trans K⟩
 rw [hpre]
 exact O.weak (by omega)
end Go.Proofs.YtjghlcdidopcpaaGreatDoor

namespace Go.Proofs.YtjghlcdidopcpaaGreatDoor
open Go Go.Abs
attribute [local congr] aP
theorem cv8n (n:Nat) (h:ak) (hn:n<256):dU .u8 (aN n) h=some (u8 n,h):=by
 unfold aN
 rw [bX,wrap_u8 (by omega) (by omega)]
theorem bsl2 (h:ak) (x y:Nat):dD 1 (.int .u8 0) 2 [(0,u8 x),(1,u8 y)] h=some (.slice (some ⟨h.next,0,none⟩) 2 2,h.alloc (bI [x,y])):=rfl
theorem two_at {k:dA} {o:Nat} {a b:Value} (e:(k.drop o).take 2 = [a,b]):k[o]? = some a∧k[o+1]? = some b:=by
 have h0:((k.drop o).take 2)[0]? = some a:=by rw [e];rfl
 have h1:((k.drop o).take 2)[1]? = some b:=by rw [e];rfl
 rw [List.getElem?_take,if_pos (by decide),List.getElem?_drop] at h0 h1
 exact ⟨h0,h1⟩
theorem b57_7_exit (C:av) (e:Env) (h:ak):b57_9 C 1 e h=k57_7 C e h:=rfl
theorem b57_21_exit (C:av) (e:Env) (h:ak):b57_23 C 3 e h=k57_21 C e h:=rfl
def Ret57 (h1:ak) (o:Out) (L:List Nat):Prop := ∃ w h',o=some (w,h')∧cM h' h1.next w L∧Old h1 h'
section
variable {h1:ak} {B:Nat} {s:cP} {m:aZ} {x0:Nat→Value} {g:ak} (hG:4≤h1.n0) (hz:GZ h1) (x:ej h1 s m) (gb:h1.get B=some (m.d.cells s))
include hG x gb
def pbInv (h1:ak) (B:Nat) (L:List Nat) (t:List eh) (k:Nat) (y:Nat→Value) (g:ak):Prop:=
 ∃ i,i+k=t.length∧y 1=ptr B 0∧y 5=aN i∧Old h1 g∧cM g h1.next (y 3) (L++(t.take i).flatMap fj)
def pbFin (h1:ak) (L:List Nat) (t:List eh) (ex:Ex) (y:Nat→Value) (g:ak):Prop:=
 ex = .exit 1∧Old h1 g∧cM g h1.next (y 3) (L++t.flatMap fj)
theorem pbRound {L:List Nat} (hl:m.table.length≤255) (hL:L.length≤100) :
  ∀ k y g,pbInv h1 B L m.table k y g→dw 169 (pbInv h1 B L m.table) (pbFin h1 L m.table) k (dx CW y g):=by
 rintro k y g ⟨i,hik,y1,y5,K,O⟩
 have A:=bW (x.bm K) (Old.get K gb)
 have ln:=x.len.1
 unfold dx
 by_cases hi:i<m.table.length
 ·obtain ⟨bb,q,kb,_,a1,gk,_,hel,_,_⟩:=(x.sl.a.bm K).at hi
  obtain ⟨p,hm⟩ : ∃ p,m.table[i]? = some p:=⟨m.table[i],List.getElem?_eq_getElem hi⟩
  have wm:=x.wf.table p (List.mem_of_getElem? hm)
  have a1:cD 2 s.a (aN i)=some (ptr bb (q+i*2)):=a1
  have hel:(kb.drop (q+i*2)).take 2=el 2 (m.table.flatMap eV) i:=hel
  rw [el_flat157 x.wf.table hm] at hel
  obtain ⟨t0,t1⟩:=two_at hel
  have l0:aK (ptr bb (q+i*2)) g=some (.int .u64 (p.inc:Int),g):=bf gk t0 rfl
  have hlen:((m.table.take i).flatMap fj).length=i*9:=by
   rw [eZ (z:=9) _ (fun a _=>encMem_len a),List.length_take,Nat.min_eq_left (by omega)]
  obtain ⟨w2,g2,e2,W2,k2⟩:=r58 g (by rw [K.n0];exact hG) (n:=p.inc) (k:=8) (by decide) (by decide) wm.inc
  have e2:CW 58 [.int .u64 (p.inc:Int),.int .i64 8] g=_:=e2
  obtain ⟨v3,g3,e3,O3,K3⟩:=ep K O k2 W2 (by rw [List.length_append,hlen,aF];omega)
  have A2:=bW (x.bm (K.trans k2)) (Old.get (K.trans k2) gb)
  have A3:=bW (x.bm K3) (Old.get K3 gb)
  have l1 : ∀ g',Old h1 g'→(Old g g'∨g'=g3)→True:=fun _ _ _=>trivial
  obtain ⟨bb3,q3,kb3,hs3,a3,gk3,_,hel3,_,_⟩:=(x.sl.a.bm K3).at hi
  have a3:cD 2 s.a (aN i)=some (ptr bb3 (q3+i*2)):=a3
  have hel3:(kb3.drop (q3+i*2)).take 2=el 2 (m.table.flatMap eV) i:=hel3
  rw [el_flat157 x.wf.table hm] at hel3
  rw [a1] at a3
  have a3:ptr bb (q+i*2)=ptr bb3 (q3+i*2):=Option.some.inj a3
  have ea:bb=bb3∧q+i*2=q3+i*2:=by
   unfold ptr at a3
   simp only [Value.pointer.injEq,Option.some.injEq,Addr.mk.injEq,and_true] at a3
   exact a3
  obtain ⟨rfl,eq⟩:=ea
  rw [←eq] at hel3
  have l3:aK (ptr bb (q+i*2+1)) g3=some (.int .u8 (p.st:Int),g3):=bf gk3 (two_at hel3).2 rfl
  have l1g:aK (ptr bb (q+i*2+1)) g=some (.int .u8 (p.st:Int),g):=bf gk t1 rfl
  have l1g2:aK (ptr bb (q+i*2+1)) g2=some (.int .u8 (p.st:Int),g2):=bf (Old.get k2 gk) t1 rfl
  have ckA : ∀ h,cF true (some (s.a,h)) s.a=true:=fun h=>fK rfl x.sl.a.fa
  obtain ⟨v4,g4,e4,O4,K4⟩:=app_one K3 O3 wm.st (by rw [List.length_append,List.length_append,hlen,aF];omega)
  have b4:=bsl1 g3 p.st
  simp -implicitDefEqProofs only [y5, y1, A.l6, ln, dI, decide_eq_true hi, a1, l0, e2, e3, A3.l6, l3, A2.l6, l1g, l1g2, ckA, b4, e4, eT (show i+1≤9223372036854775807 by omega), Nat.add_zero, ah, aq, Bool.and_true, Bool.and_self, ao, Nat.zero_add, db]
  refine dw.next (k-1) (by omega) ⟨i+1,by omega,y1,rfl,K4,?_⟩
  rw [flat_snoc hm]
  show cM g4 h1.next v4 (L++((m.table.take i).flatMap fj++(cG 8 p.inc++cG 1 p.st)))
  rw [beB1 wm.st]
  simpa only [List.append_assoc] using O4
 ·simp -implicitDefEqProofs only [y5, y1, A.l6, ln, dI, decide_eq_false hi, ah, aq, ao, Nat.zero_add]
  refine dw.out 1 ⟨rfl,K,?_⟩
  rw [List.take_of_length_le (by omega)] at O
  exact O
theorem loopT (K:Old h1 g) {y:Nat→Value} {L:List Nat} (hl:m.table.length≤255) (hL:L.length≤100) (y1:y 1=ptr B 0) (y5:y 5 = .int .i64 0) (O:cM g h1.next (y 3) L) :
  Ret57 h1 (ei (iter (aL Tryz.prog CW (partOf Tryz.f57 [1,1,0,0,1,0,1,1,1,0,1,0,0])) rounds (aX 169 y) g) (ax Tryz.prog Tryz.f57.results.toList) (b57_9 CW)) (L++m.table.flatMap fj):=by
 refine cy (Q:=fun o:Out=>Ret57 h1 o (L++m.table.flatMap fj)) (cn (t57l57_110010111010_eq CW) (pbRound hG x gb hl hL) m.table.length (by have:rounds=18446744073709551616:=rfl;omega)
  ⟨0,Nat.zero_add _,y1,y5,K,by rw [List.take_zero,List.flatMap_nil,List.append_nil];exact O⟩) ?_
 rintro ex z g' ⟨rfl,K',O'⟩
 rw [bG,b57_7_exit,t57k57_7_eq]
 unfold t57k57_7
 exact ⟨_,g',rfl,O',K'⟩
theorem s57_ping (K:Old h1 g) (x1:x0 1=ptr B 0) (hk:m.kind≤3) (hl:m.table.length≤255):Ret57 h1 (k57s2 CW (aX 169 x0) g) (if m.kind=3 then bReq m else bPing m):=by
 have A:=bW (x.bm K) (Old.get K gb)
 have G4:4≤g.n0:=by rw [K.n0];exact hG
 have q3:bin Tryz.prog .leq 24 (.int .u8 (m.kind:Int)) (.int .u8 3)=some (.bool true):=by rw [aC,decide_eq_true (by omega)]
 have qe:bin Tryz.prog .eql 24 (.int .u8 (m.kind:Int)) (.int .u8 3)=some (.bool ((m.kind:Int)==3)):=ay ..
 have ln:=x.len.1
 have ckA : ∀ h,cF true (some (s.a,h)) s.a=true:=fun h=>fK rfl x.sl.a.fa
 have cku : ∀ n h,cF true (some (u8 n,h)) (u8 n)=true:=chkU
 have ckn : ∀ n h,cF true (some (aN n,h)) (aN n)=true:=fun n h=>db .i64 _ h
 rw [t57s2_eq]
 unfold t57s2
 by_cases d:m.kind=3
 ·rw [if_pos d]
  rw [show ((m.kind:Int)==3)=true by rw [d];rfl] at qe
  obtain ⟨w1,g1,e1,W1,k1⟩:=r58 g G4 (n:=m.seq) (k:=8) (by decide) (by decide) x.wf.seq
  have e1:CW 58 [.int .u64 (m.seq:Int),.int .i64 8] g=_:=e1
  have K1:=K.trans k1
  have A1:=bW (x.bm K1) (Old.get K1 gb)
  have c1:=cv8i .i64 m.target
  have c2:=cv8n m.table.length
  have b2:=bsl2 g1 (i8 m.target) m.table.length
  have hb2:Bys [i8 m.target,m.table.length]:=fun z hz=>by
   simp only [List.mem_cons,List.not_mem_nil,or_false] at hz
   rcases hz with rfl|rfl
   ·exact cX _
   ·omega
  have ka:Old g1 (g1.alloc (bI [i8 m.target,m.table.length])):=Kept.alloc _ _ _
  obtain ⟨v3,g3,e3,O3,K3⟩:=app_sl (h0:=h1) (c:=2) (K1.trans ka) ((W1.weak (M:=h1.next) K.next).dV ka (fun _ _ h=>h)) (bytesL g1 hb2) (by simp [aF])
  have e3:aO 1 1 w1 (.slice (some ⟨g1.next,0,none⟩) 2 2) (g1.alloc (bI [i8 m.target,m.table.length]))=some (v3,g3):=e3
  simp -implicitDefEqProofs only [x1, A.l0, q3, A.l4, qe, A.l5, A.l3, e1, c1, A1.l6, A.l6, ln, c2 _ (show m.table.length<256 by omega), b2, e3, ckA, cku, ckn, ah, aq, Bool.and_true, Bool.and_self, ao, Nat.zero_add]
  have hL:bReq m=(cG 8 m.seq ++ [i8 m.target,m.table.length])++m.table.flatMap fj:=by
   unfold bReq fc
   rw [beB1 (cX _),beB1 (show m.table.length<256 by omega)]
   simp only [List.append_assoc,List.cons_append,List.nil_append]
  rw [hL]
  refine loopT hG x gb K3 (L:=cG 8 m.seq ++ [i8 m.target,m.table.length]) hl (by simp [aF]) ?_ ?_ ?_
  ·exact x1
  ·rfl
  ·exact O3
 ·rw [if_neg d]
  rw [show ((m.kind:Int)==3)=false by simp;omega] at qe
  obtain ⟨w1,g1,e1,W1,k1⟩:=r58 g G4 (n:=m.seq) (k:=8) (by decide) (by decide) x.wf.seq
  have e1:CW 58 [.int .u64 (m.seq:Int),.int .i64 8] g=_:=e1
  have K1:=K.trans k1
  have A1:=bW (x.bm K1) (Old.get K1 gb)
  have c1:=cv8i .i64 m.origin
  have c2:=cv8n m.table.length
  have b2:=bsl2 g1 (i8 m.origin) m.table.length
  have hb2:Bys [i8 m.origin,m.table.length]:=fun z hz=>by
   simp only [List.mem_cons,List.not_mem_nil,or_false] at hz
   rcases hz with rfl|rfl
   ·exact cX _
   ·omega
  have ka:Old g1 (g1.alloc (bI [i8 m.origin,m.table.length])):=Kept.alloc _ _ _
  obtain ⟨v3,g3,e3,O3,K3⟩:=app_sl (h0:=h1) (c:=2) (K1.trans ka) ((W1.weak (M:=h1.next) K.next).dV ka (fun _ _ h=>h)) (bytesL g1 hb2) (by simp [aF])
  have e3:aO 1 1 w1 (.slice (some ⟨g1.next,0,none⟩) 2 2) (g1.alloc (bI [i8 m.origin,m.table.length]))=some (v3,g3):=e3
  simp -implicitDefEqProofs only [x1, A.l0, q3, A.l4, qe, A.l3, e1, c1, A1.l6, A.l6, ln, c2 _ (show m.table.length<256 by omega), b2, e3, ckA, cku, ckn, ah, aq, Bool.and_true, Bool.and_self, ao, Nat.zero_add]
  have hL:bPing m=(cG 8 m.seq ++ [i8 m.origin,m.table.length])++m.table.flatMap fj:=by
   unfold bPing fc
   rw [beB1 (cX _),beB1 (show m.table.length<256 by omega)]
   simp only [List.append_assoc,List.cons_append,List.nil_append]
  rw [hL]
  refine loopT hG x gb K3 (L:=cG 8 m.seq ++ [i8 m.origin,m.table.length]) hl (by simp [aF]) ?_ ?_ ?_
  ·exact x1
  ·rfl
  ·exact O3
end
end Go.Proofs.YtjghlcdidopcpaaGreatDoor

namespace Go.Proofs.YtjghlcdidopcpaaGreatDoor
open Go Go.Abs
attribute [local congr] aP
theorem cvU {z:Int} (h0:0≤z) (h1:z≤4000000000) (h:ak):dU .u64 (.int .i64 z) h=some (.int .u64 ((z.toNat:Nat):Int),h):=by
 rw [bX,eY (by omega) (by omega)]
 congr 3
 omega
theorem bslLit1 (h:ak):dD 1 (.int .u8 0) 1 [(0,.int .u8 1)] h=some (.slice (some ⟨h.next,0,none⟩) 1 1,h.alloc [u8 1]):=rfl
theorem bslLit0 (h:ak):dD 1 (.int .u8 0) 1 [(0,.int .u8 0)] h=some (.slice (some ⟨h.next,0,none⟩) 1 1,h.alloc [u8 0]):=rfl
section
variable {h1:ak} {B:Nat} {s:cP} {m:aZ} {x0:Nat→Value} {g:ak} (hG:4≤h1.n0) (hz:GZ h1) (x:ej h1 s m) (gb:h1.get B=some (m.d.cells s))
include hG x gb
omit hG in
theorem root_at (K:Old h1 g):aJ (some ⟨B,10,none⟩) 32 g=some m.root:=by
 have:=bK (s:=none) (Old.get K gb) (show m.d.cells s=m.d.front s++(bI m.root++([s.d,.bool m.b7]++(bI m.obj++(m.d.dv s ++ [.int .i64 m.cg,s.f,.int .i64 m.code])))) from rfl) rfl x.wf.root.2
 rw [x.wf.root.1] at this
 exact this
omit hG in
theorem obj_at (K:Old h1 g):aJ (some ⟨B,44,none⟩) 32 g=some m.obj:=by
 have:=bK (s:=none) (off:=44) (Old.get K gb) (A:=m.d.front s++(bI m.root ++ [s.d,.bool m.b7])) (C:=m.d.dv s ++ [.int .i64 m.cg,s.f,.int .i64 m.code]) (by
  unfold bD.cells
  simp only [List.append_assoc]
  rfl) (by
  simp only [List.length_append,b6 x.wf.root]
  rfl) x.wf.obj.2
 rw [x.wf.obj.1] at this
 exact this
set_option maxRecDepth 100000 in
theorem s57_sum (K:Old h1 g) (x1:x0 1=ptr B 0) (hk:m.kind=4) (hl:m.low.length≤34) (hh:m.high.length≤34) (hc0:0≤m.count) (hc1:m.count≤1048576):Ret57 h1 (k57s2 CW (aX 169 x0) g) (bSum m):=by
 have A:=bW (x.bm K) (Old.get K gb)
 have G4:4≤g.n0:=by rw [K.n0];exact hG
 have q3:bin Tryz.prog .leq 24 (.int .u8 (m.kind:Int)) (.int .u8 3)=some (.bool false):=by rw [aC,decide_eq_false (by omega)]
 have qe:bin Tryz.prog .eql 24 (.int .u8 (m.kind:Int)) (.int .u8 4)=some (.bool true):=by rw [ay,hk];rfl
 obtain ⟨a1,c1,E1,T1,_⟩:=x.sl.b.bytes x.wf.low
 obtain ⟨a2,c2,E2,T2,_⟩:=x.sl.c.bytes x.wf.high
 have ckC : ∀ h,cF true (some (s.c,h)) s.c=true:=fun h=>fK rfl x.sl.c.fa
 obtain ⟨v3,g3,e3,W3,k3⟩:=r87 G4 (c:=c1) (Old.bytes K T1) (by omega)
 rw [←E1] at e3
 have K3:=K.trans k3
 have A3:=bW (x.bm K3) (Old.get K3 gb)
 obtain ⟨v4,g4,e4,W4,k4⟩:=r87 (h:=g3) (by rw [K3.n0];exact hG) (c:=c2) (Old.bytes K3 T2) (by omega)
 rw [←E2] at e4
 obtain ⟨v5,g5,e5,O5,K5⟩:=ep (h0:=h1) K3 (W3.weak K.next) k4 W4 (by rw [bj,bj];omega)
 have A5:=bW (x.bm K5) (Old.get K5 gb)
 have cc:=cvU hc0 (show m.count≤4000000000 by omega) g5
 obtain ⟨w6,g6,e6,W6,k6⟩:=r58 g5 (by rw [K5.n0];exact hG) (n:=m.count.toNat) (k:=4) (by decide) (by decide) (by omega)
 have e6:CW 58 [.int .u64 ((m.count.toNat:Nat):Int),.int .i64 4] g5=_:=e6
 obtain ⟨v7,g7,e7,O7,K7⟩:=ep K5 O5 k6 W6 (by rw [List.length_append,bj,bj,aF];omega)
 obtain ⟨v8,g8,e8,O8,K8⟩:=app_sl (c:=32) K7 O7 (root_at x gb K7) (by rw [List.length_append,List.length_append,bj,bj,aF];omega)
 rw [t57s2_eq]
 unfold t57s2
 simp -implicitDefEqProofs only [x1, A.l0, q3, qe, A.l7, e3, A3.l8, A.l8, e4, e5, ckC, A5.l9, cc, e6, e7, arr32, e8, ah, aq, Bool.and_true, ao, Nat.zero_add]
 refine ⟨_,g8,rfl,?_,K8⟩
 unfold bSum
 rw [show i32 m.count=m.count.toNat by unfold i32;omega]
 simpa only [List.append_assoc] using O8
def rbInv (h1:ak) (B:Nat) (L:List Nat) (t:List cx) (k:Nat) (y:Nat→Value) (g:ak):Prop:=
 ∃ i,i+k=t.length∧y 1=ptr B 0∧y 6=aN i∧Old h1 g∧cM g h1.next (y 3) (L++(t.take i).flatMap dL)
def rbFin (h1:ak) (L:List Nat) (t:List cx) (ex:Ex) (y:Nat→Value) (g:ak):Prop:=
 ex = .exit 3∧Old h1 g∧cM g h1.next (y 3) (L++t.flatMap dL)
include hz
set_option maxRecDepth 100000 in
theorem rbRound {L:List Nat} (hv : ∀ r∈m.bC,eW r=true) (hl:m.bC.length≤64) (hL:L.length≤1000) :
  ∀ k y g,rbInv h1 B L m.bC k y g→dw 169 (rbInv h1 B L m.bC) (rbFin h1 L m.bC) k (cV CW y g):=by
 rintro k y g ⟨i,hik,y1,y6,K,O⟩
 have A:=bW (x.bm K) (Old.get K gb)
 have ln:=x.len.2.2.2.1
 unfold cV
 by_cases hi:i<m.bC.length
 ·obtain ⟨bb,q,kb,_,a1,_,_,_,a2,_⟩:=(x.sl.d.bm K).at hi
  obtain ⟨p,hm⟩ : ∃ p,m.bC[i]? = some p:=⟨m.bC[i],List.getElem?_eq_getElem hi⟩
  have wm:=x.wf.bC p (List.mem_of_getElem? hm)
  have a1:cD 39 s.d (aN i)=some (ptr bb (q+i*39)):=a1
  have a2:bP 39 (ptr bb (q+i*39)) g=some (.agg (el 39 (m.bC.flatMap recC) i).toArray,g):=a2
  rw [el_flat150 x.wf.bC hm] at a2
  have hlen:((m.bC.take i).flatMap dL).length=i*53:=by
   rw [eZ (z:=53) _ (fun a ha=>encRec_len (x.wf.bC a (List.mem_of_mem_take ha))),List.length_take,Nat.min_eq_left (by omega)]
  obtain ⟨w2,g2,e2,W2,k2⟩:=r88 (h:=g) (by rw [K.n0];exact hG) (hz.bm K) wm (hv p (List.mem_of_getElem? hm))
  obtain ⟨v3,g3,e3,O3,K3⟩:=ep K O k2 W2 (by rw [List.length_append,hlen,encRec_len wm];omega)
  simp -implicitDefEqProofs only [y6, y1, A.bF, ln, dI, decide_eq_true hi, a1, a2, e2, e3, eT (show i+1≤9223372036854775807 by omega), ah, aq, bM, bN, ao, Nat.zero_add]
  refine dw.next (k-1) (by omega) ⟨i+1,by omega,y1,rfl,K3,?_⟩
  rw [flat_snoc hm,←List.append_assoc]
  exact O3
 ·simp -implicitDefEqProofs only [y6, y1, A.bF, ln, dI, decide_eq_false hi, ah, aq, ao, Nat.zero_add]
  refine dw.out 3 ⟨rfl,K,?_⟩
  rw [List.take_of_length_le (by omega)] at O
  exact O
theorem loopR (K:Old h1 g) {y:Nat→Value} {L:List Nat} (hv : ∀ r∈m.bC,eW r=true) (hl:m.bC.length≤64) (hL:L.length≤1000) (y1:y 1=ptr B 0) (y6:y 6 = .int .i64 0) (O:cM g h1.next (y 3) L) :
  Ret57 h1 (ei (iter (aL Tryz.prog CW (partOf Tryz.f57 [1,1,0,0,1,1,1,1,1,0,1,1,1,0,1,0,0])) rounds (aX 169 y) g) (ax Tryz.prog Tryz.f57.results.toList) (b57_23 CW)) (L++m.bC.flatMap dL):=by
 refine cy (Q:=fun o:Out=>Ret57 h1 o (L++m.bC.flatMap dL)) (cn (t57l57_1100111110111010_eq CW) (rbRound hG hz x gb hv hl hL) m.bC.length (by have:rounds=18446744073709551616:=rfl;omega)
  ⟨0,Nat.zero_add _,y1,y6,K,by rw [List.take_zero,List.flatMap_nil,List.append_nil];exact O⟩) ?_
 rintro ex z g' ⟨rfl,K',O'⟩
 rw [bG,b57_21_exit,t57k57_21_eq]
 unfold t57k57_21
 exact ⟨_,g',rfl,O',K'⟩
set_option maxRecDepth 100000 in
theorem s57_items (K:Old h1 g) (x1:x0 1=ptr B 0) (hk:m.kind=5) (hl:m.low.length≤34) (hh:m.high.length≤34) (hv : ∀ r∈m.bC,eW r=true) (hr:m.bC.length≤64):Ret57 h1 (k57s2 CW (aX 169 x0) g) (eN m):=by
 have A:=bW (x.bm K) (Old.get K gb)
 have G4:4≤g.n0:=by rw [K.n0];exact hG
 have q3:bin Tryz.prog .leq 24 (.int .u8 (m.kind:Int)) (.int .u8 3)=some (.bool false):=by rw [aC,decide_eq_false (by omega)]
 have q4:bin Tryz.prog .eql 24 (.int .u8 (m.kind:Int)) (.int .u8 4)=some (.bool false):=by rw [ay,hk];rfl
 have qe:bin Tryz.prog .eql 24 (.int .u8 (m.kind:Int)) (.int .u8 5)=some (.bool true):=by rw [ay,hk];rfl
 have ln:=x.len.2.2.2.1
 obtain ⟨a1,c1,E1,T1,_⟩:=x.sl.b.bytes x.wf.low
 obtain ⟨a2,c2,E2,T2,_⟩:=x.sl.c.bytes x.wf.high
 have ckC : ∀ h,cF true (some (s.c,h)) s.c=true:=fun h=>fK rfl x.sl.c.fa
 obtain ⟨v3,g3,e3,W3,k3⟩:=r87 G4 (c:=c1) (Old.bytes K T1) (by omega)
 rw [←E1] at e3
 have K3:=K.trans k3
 have A3:=bW (x.bm K3) (Old.get K3 gb)
 obtain ⟨v4,g4,e4,W4,k4⟩:=r87 (h:=g3) (by rw [K3.n0];exact hG) (c:=c2) (Old.bytes K3 T2) (by omega)
 rw [←E2] at e4
 obtain ⟨v5,g5,e5,O5,K5⟩:=ep (h0:=h1) K3 (W3.weak K.next) k4 W4 (by rw [bj,bj];omega)
 have A5:=bW (x.bm K5) (Old.get K5 gb)
 have hbit:=bit_lt m.b7
 obtain ⟨v6,g6,e6,O6,K6⟩:=app_one K5 O5 (x:=bit m.b7) (by omega) (by rw [List.length_append,bj,bj];omega)
 have A6:=bW (x.bm K6) (Old.get K6 gb)
 have cr:dU .u64 (aN m.bC.length) g6=some (.int .u64 ((m.bC.length:Nat):Int),g6):=by
  unfold aN
  rw [bX,eY (by omega) (by omega)]
 obtain ⟨w7,g7,e7,W7,k7⟩:=r58 g6 (by rw [K6.n0];exact hG) (n:=m.bC.length) (k:=2) (by decide) (by decide) (by omega)
 have e7:CW 58 [.int .u64 ((m.bC.length:Nat):Int),.int .i64 2] g6=_:=e7
 obtain ⟨v8,g8,e8,O8,K8⟩:=ep K6 O6 k7 W7 (by rw [List.length_append,List.length_append,bj,bj,aF,List.length_singleton];omega)
 have hL:eN m=((((text m.low++text m.high) ++ [bit m.b7])++cG 2 m.bC.length)++m.bC.flatMap dL):=by
  unfold eN
  rw [beB1 (show bit m.b7<256 by omega)]
  simp only [List.append_assoc]
 rw [hL]
 have b1:=bslLit1 g5
 have b0:=bslLit0 g5
 rw [t57s2_eq]
 unfold t57s2
 cases hw:m.b7 with
 |true=>
  have bU:=A5.bU
  rw [hw] at bU e6 O8
  have e6:aO 1 1 v5 (.slice (some ⟨g5.next,0,none⟩) 1 1) (g5.alloc [u8 1])=some (v6,g6):=e6
  simp -implicitDefEqProofs only [x1, A.l0, q3, q4, qe, A.l7, e3, A3.l8, A.l8, e4, e5, ckC, bU, b1, e6, A6.bF, ln, cr, e7, e8, ah, aq, Bool.and_true, ao, Nat.zero_add]
  refine loopR hG hz x gb K8 hv hr (by simp only [List.length_append,bj,aF,List.length_singleton];omega) ?_ ?_ ?_
  ·exact x1
  ·rfl
  ·exact O8
 |false=>
  have bU:=A5.bU
  rw [hw] at bU e6 O8
  have e6:aO 1 1 v5 (.slice (some ⟨g5.next,0,none⟩) 1 1) (g5.alloc [u8 0])=some (v6,g6):=e6
  simp -implicitDefEqProofs only [x1, A.l0, q3, q4, qe, A.l7, e3, A3.l8, A.l8, e4, e5, ckC, bU, b0, e6, A6.bF, ln, cr, e7, e8, ah, aq, Bool.and_true, ao, Nat.zero_add]
  refine loopR hG hz x gb K8 hv hr (by simp only [List.length_append,bj,aF,List.length_singleton];omega) ?_ ?_ ?_
  ·exact x1
  ·rfl
  ·exact O8
omit hG hz in
theorem s57_skip (K:Old h1 g) (x1:x0 1=ptr B 0) (hk:6≤m.kind) : ∃ y,k57s2 CW (aX 169 x0) g=k57s3 CW (aX 169 y) g∧y 1=x0 1∧y 3=x0 3:=by
 have A:=bW (x.bm K) (Old.get K gb)
 have q3:bin Tryz.prog .leq 24 (.int .u8 (m.kind:Int)) (.int .u8 3)=some (.bool false):=by rw [aC,decide_eq_false (by omega)]
 have q4:bin Tryz.prog .eql 24 (.int .u8 (m.kind:Int)) (.int .u8 4)=some (.bool false):=by rw [ay,show ((m.kind:Int)==4)=false by simp;omega]
 have q5:bin Tryz.prog .eql 24 (.int .u8 (m.kind:Int)) (.int .u8 5)=some (.bool false):=by rw [ay,show ((m.kind:Int)==5)=false by simp;omega]
 rw [t57s2_eq]
 unfold t57s2
 simp -implicitDefEqProofs only [x1, A.l0, q3, q4, q5, ah, aq, Bool.and_true, ao, Nat.zero_add]
 exact ⟨_,rfl,x1▸rfl,rfl⟩
omit hG hz in
theorem s57_3 (K:Old h1 g) (x1:x0 1=ptr B 0) (O:cM g h1.next (x0 3) []) : ∃ y g',k57s3 CW (aX 169 x0) g=k57s4 CW (aX 169 y) g'∧y 1=ptr B 0∧Old h1 g'∧cM g' h1.next (y 3) m.obj:=by
 obtain ⟨v8,g8,e8,O8,K8⟩:=app_sl (c:=32) K O (obj_at x gb K) (by simp)
 rw [t57s3_eq]
 unfold t57s3
 simp -implicitDefEqProofs only [x1, arr32, e8, ah, aq, ao, Nat.zero_add]
 exact ⟨_,g8,rfl,x1▸rfl,K8,O8⟩
omit hG hz in
theorem s57_obj (K:Old h1 g) (x1:x0 1=ptr B 0) (h8 : ¬m.kind=8) (h10 : ¬m.kind=10) (h11 : ¬m.kind=11) {L:List Nat} (O:cM g h1.next (x0 3) L):Ret57 h1 (k57s4 CW (aX 169 x0) g) L:=by
 have A:=bW (x.bm K) (Old.get K gb)
 have q8:bin Tryz.prog .eql 24 (.int .u8 (m.kind:Int)) (.int .u8 8)=some (.bool false):=by rw [ay,show ((m.kind:Int)==8)=false by simp;omega]
 have q10:bin Tryz.prog .eql 24 (.int .u8 (m.kind:Int)) (.int .u8 10)=some (.bool false):=by rw [ay,show ((m.kind:Int)==10)=false by simp;omega]
 have q11:bin Tryz.prog .eql 24 (.int .u8 (m.kind:Int)) (.int .u8 11)=some (.bool false):=by rw [ay,show ((m.kind:Int)==11)=false by simp;omega]
 rw [t57s4_eq]
 unfold t57s4
 simp -implicitDefEqProofs only [x1, A.l0, q8, q10, q11, ah, aq, ar, beq_self_eq_true, aj, Bool.false_eq_true, if_false, Bool.and_true, ao, Nat.zero_add, Nat.reduceAdd]
 exact ⟨_,g,rfl,O,K⟩
omit hz in
theorem s57_code (K:Old h1 g) (x1:x0 1=ptr B 0) (h11:m.kind=11) (hc0:0≤m.code) (hc1:m.code≤999) (O:cM g h1.next (x0 3) m.obj):Ret57 h1 (k57s4 CW (aX 169 x0) g) (bStored m):=by
 have A:=bW (x.bm K) (Old.get K gb)
 have q8:bin Tryz.prog .eql 24 (.int .u8 (m.kind:Int)) (.int .u8 8)=some (.bool false):=by rw [ay,h11];rfl
 have q10:bin Tryz.prog .eql 24 (.int .u8 (m.kind:Int)) (.int .u8 10)=some (.bool false):=by rw [ay,h11];rfl
 have q11:bin Tryz.prog .eql 24 (.int .u8 (m.kind:Int)) (.int .u8 11)=some (.bool true):=by rw [ay,h11];rfl
 have cc:=cvU hc0 (show m.code≤4000000000 by omega) g
 obtain ⟨w6,g6,e6,W6,k6⟩:=r58 g (by rw [K.n0];exact hG) (n:=m.code.toNat) (k:=2) (by decide) (by decide) (by omega)
 have e6:CW 58 [.int .u64 ((m.code.toNat:Nat):Int),.int .i64 2] g=_:=e6
 obtain ⟨v7,g7,e7,O7,K7⟩:=ep K O k6 W6 (by rw [x.wf.obj.1,aF];omega)
 rw [t57s4_eq]
 unfold t57s4
 simp -implicitDefEqProofs only [x1, A.l0, q8, q10, q11, A.aU, cc, e6, e7, ah, aq, ar, beq_self_eq_true, aj, Bool.false_eq_true, if_false, Bool.and_true, ao, Nat.zero_add, Nat.reduceAdd]
 refine ⟨_,g7,rfl,?_,K7⟩
 unfold bStored
 rw [show i16 m.code=m.code.toNat by unfold i16;omega]
 exact O7
omit hz in
theorem s57_piece (K:Old h1 g) (x1:x0 1=ptr B 0) (h8:m.kind=8∨m.kind=10) (hm:dp m=false) (hp0:0≤m.cg) (hp1:m.cg≤254) (hd:m.data.length≤8192) (O:cM g h1.next (x0 3) m.obj):Ret57 h1 (k57s4 CW (aX 169 x0) g) (bPiece m):=by
 have A:=bW (x.bm K) (Old.get K gb)
 have q8:bin Tryz.prog .eql 24 (.int .u8 (m.kind:Int)) (.int .u8 8)=some (.bool ((m.kind:Int)==8)):=ay ..
 have q10:bin Tryz.prog .eql 24 (.int .u8 (m.kind:Int)) (.int .u8 10)=some (.bool ((m.kind:Int)==10)):=ay ..
 have q11:bin Tryz.prog .eql 24 (.int .u8 (m.kind:Int)) (.int .u8 11)=some (.bool false):=by rw [ay,show ((m.kind:Int)==11)=false by simp;omega]
 have mf:=man_fine hm
 have ml:=encMan_len x.wf
 obtain ⟨w2,g2,e2,W2,k2⟩:=r89 (h:=g) (by rw [K.n0];exact hG) (x.bm K) hm
 have K2:=K.trans k2
 obtain ⟨aw,cw,E2,T2,_⟩:=W2.bytes
 obtain ⟨w3,g3,e3,W3,k3⟩:=r87 (h:=g2) (by rw [K2.n0];exact hG) (c:=cw) T2 (by omega)
 rw [←E2] at e3
 have K3:=K2.trans k3
 have A2:=bW (x.bm K2) (Old.get K2 gb)
 have A3:=bW (x.bm K3) (Old.get K3 gb)
 obtain ⟨v4,g4,e4,O4,K4⟩:=ep K2 (O.dV k2 (fun _ _ h=>h)) k3 W3 (by rw [x.wf.obj.1,bj];omega)
 have A4:=bW (x.bm K4) (Old.get K4 gb)
 have cc:=fun h=>cvU hp0 (show m.cg≤4000000000 by omega) h
 obtain ⟨w5,g5,e5,W5,k5⟩:=r58 g4 (by rw [K4.n0];exact hG) (n:=m.cg.toNat) (k:=2) (by decide) (by decide) (by omega)
 have e5:CW 58 [.int .u64 ((m.cg.toNat:Nat):Int),.int .i64 2] g4=_:=e5
 obtain ⟨v6,g6,e6,O6,K6⟩:=ep K4 O4 k5 W5 (by rw [List.length_append,x.wf.obj.1,bj,aF];omega)
 have A6:=bW (x.bm K6) (Old.get K6 gb)
 obtain ⟨a7,c7,E7,T7,_⟩:=x.sl.f.bytes x.wf.data
 obtain ⟨w8,g8,e8,W8,k8⟩:=r87 (h:=g6) (by rw [K6.n0];exact hG) (c:=c7) (Old.bytes K6 T7) (by omega)
 rw [←E7] at e8
 obtain ⟨v9,g9,e9,O9,K9⟩:=ep K6 O6 k8 W8 (by rw [List.length_append,List.length_append,x.wf.obj.1,bj,bj,aF];omega)
 have A9:=bW (x.bm K9) (Old.get K9 gb)
 have hL:bPiece m=((m.obj++text (dS m))++cG 2 m.cg.toNat)++text m.data:=by
  unfold bPiece
  rw [show i16 m.cg=m.cg.toNat by unfold i16;omega]
  simp only [List.append_assoc]
 rw [hL]
 rw [t57s4_eq]
 unfold t57s4
 by_cases k8':m.kind=8
 ·rw [show ((m.kind:Int)==8)=true by rw [k8'];rfl] at q8
  simp -implicitDefEqProofs only [x1, A.l0, q8, A.bR, e2, e3, e4, A4.aT, A2.aT, A3.aT, cc, e5, e6, A6.aR, e8, e9, A9.l0, q11, ah, aq, ar, sf, ai, if_true, Bool.and_true, Bool.and_self, bM, bN, ao, Nat.zero_add, Nat.reduceAdd, db]
  exact ⟨_,g9,rfl,O9,K9⟩
 ·rw [show ((m.kind:Int)==8)=false by simp;omega] at q8
  rw [show ((m.kind:Int)==10)=true by simp;omega] at q10
  simp -implicitDefEqProofs only [x1, A.l0, q8, q10, A.bR, e2, e3, e4, A4.aT, A2.aT, A3.aT, cc, e5, e6, A6.aR, e8, e9, A9.l0, q11, ah, aq, ar, beq_self_eq_true, aj, Bool.false_eq_true, if_false, Bool.and_true, Bool.and_self, bM, bN, ao, Nat.zero_add, Nat.reduceAdd, db]
  exact ⟨_,g9,rfl,O9,K9⟩
end
theorem is57:bB Tryz.prog 57 Tryz.f57:=⟨by kernel_rfl,by kernel_rfl,by kernel_rfl,by kernel_rfl⟩
theorem r57 {h:ak} {s:cP} {m:aZ} (hG:4≤h.n0) (hz:GZ h) (x:ej h s m) (v:b9 m=true) : ∃ w h',CW 57 [mv m s] h=some (w,h')∧cM h' h.next w (dC m.kind m)∧Old h h':=by
 obtain ⟨h1,b1,o1,X1,A1,n1,ea⟩:=dg x
 have gb:h1.get h.next=some (m.d.cells s):=by rw [ea,ak.aM,if_pos rfl]
 have hG1:4≤h1.n0:=by rw [o1.n0];exact hG
 have hz1:=hz.bm o1
 have ka:Old h1 (h1.alloc []):=Kept.alloc _ _ _
 have O0:cM (h1.alloc []) h1.next (.slice (some ⟨h1.next,0,none⟩) 0 0) []:=own0 h1
 have bz:dD 1 (.int .u8 0) 0 [] h1=some (.slice (some ⟨h1.next,0,none⟩) 0 0,h1.alloc []):=bslB h1
 have st : ∃ y,k57s0 CW (aX 169 (bs [mv m s])) h=k57s2 CW (aX 169 y) (h1.alloc [])∧y 1=ptr h.next 0∧y 3 = .slice (some ⟨h1.next,0,none⟩) 0 0:=by
  rw [t57s0_eq]
  unfold t57s0
  simp -implicitDefEqProofs only [show bs [mv m s] 0=mv m s from rfl, b1, ah]
  rw [t57s1_eq]
  unfold t57s1
  simp -implicitDefEqProofs only [bz, ah]
  exact ⟨_,rfl,rfl,rfl⟩
 obtain ⟨y,e0,y1,y3⟩:=st
 have key:Ret57 h1 (k57s0 CW (aX 169 (bs [mv m s])) h) (dC m.kind m):=by
  rw [e0]
  obtain ⟨hk,_,_,_,hc,_⟩:=valid_all v
  have obj : ∀ (n:Nat),m.kind=n→6≤n → ∃ z g',k57s2 CW (aX 169 y) (h1.alloc [])=k57s4 CW (aX 169 z) g'∧z 1=ptr h.next 0∧Old h1 g'∧cM g' h1.next (z 3) m.obj:=fun n hn h6=>by
   obtain ⟨z,e1,z1,z3⟩:=s57_skip X1 gb ka y1 (by omega)
   rw [e1]
   exact s57_3 X1 gb ka (z1.trans y1) (by rw [z3,y3];exact O0)
  rcases kinds hk with hk|hk|hk|hk|hk|hk|hk|hk|hk|hk|hk|hk|hk<;>rw [hk] at hc ⊢
  ·have t:=tab_all (show tabB m=true from hc)
   have:=s57_ping hG1 X1 gb ka y1 (by omega) (by omega)
   rw [if_neg (by omega)] at this
   exact this
  ·have t:=tab_all (show tabB m=true from hc)
   have:=s57_ping hG1 X1 gb ka y1 (by omega) (by omega)
   rw [if_neg (by omega)] at this
   exact this
  ·have t:=tab_all (show tabB m=true from hc)
   have:=s57_ping hG1 X1 gb ka y1 (by omega) (by omega)
   rw [if_pos hk] at this
   exact this
  ·have t:=range_all (show rangeB m=true from hc)
   exact s57_sum hG1 X1 gb ka y1 hk t.1 t.2.1 t.2.2.2.2.1 t.2.2.2.2.2
  ·have t:=range_all (show rangeB m=true from hc)
   exact s57_items hG1 hz1 X1 gb ka y1 hk t.1 t.2.1 t.2.2.2.1 t.2.2.1
  ·obtain ⟨z,g',e,z1,K,O⟩:=obj 6 hk (by decide)
   rw [e]
   exact s57_obj X1 gb K z1 (by omega) (by omega) (by omega) O
  ·obtain ⟨z,g',e,z1,K,O⟩:=obj 7 hk (by decide)
   rw [e]
   exact s57_obj X1 gb K z1 (by omega) (by omega) (by omega) O
  ·obtain ⟨z,g',e,z1,K,O⟩:=obj 8 hk (by decide)
   have t:=pce_all (show pceB m=true from hc)
   rw [e]
   exact s57_piece hG1 X1 gb K z1 (.inl hk) t.1 t.2.2.1 t.2.2.2 t.2.1 O
  ·obtain ⟨z,g',e,z1,K,O⟩:=obj 9 hk (by decide)
   rw [e]
   exact s57_obj X1 gb K z1 (by omega) (by omega) (by omega) O
  ·obtain ⟨z,g',e,z1,K,O⟩:=obj 10 hk (by decide)
   have t:=pce_all (show pceB m=true from hc)
   rw [e]
   exact s57_piece hG1 X1 gb K z1 (.inr hk) t.1 t.2.2.1 t.2.2.2 t.2.1 O
  ·obtain ⟨z,g',e,z1,K,O⟩:=obj 11 hk (by decide)
   have t:=code_all (show codeB m=true from hc)
   rw [e]
   exact s57_code hG1 X1 gb K z1 hk t.1 t.2 O
  ·obtain ⟨z,g',e,z1,K,O⟩:=obj 12 hk (by decide)
   rw [e]
   exact s57_obj X1 gb K z1 (by omega) (by omega) (by omega) O
  ·obtain ⟨z,g',e,z1,K,O⟩:=obj 13 hk (by decide)
   rw [e]
   exact s57_obj X1 gb K z1 (by omega) (by omega) (by omega) O
 obtain ⟨w,h',e,O,K⟩:=key
 exact ⟨w,h',aG is57 hG rfl ((t57_eq _ _ _).trans e),O.weak (by omega),o1.trans K⟩
end Go.Proofs.YtjghlcdidopcpaaGreatDoor

namespace Go.Proofs.YtjghlcdidopcpaaGreatDoor
open Go Go.Abs
attribute [local congr] aP
theorem is23:bB Tryz.prog 23 Tryz.f23:=⟨by kernel_rfl,by kernel_rfl,by kernel_rfl,by kernel_rfl⟩
theorem is24:bB Tryz.prog 24 Tryz.f24:=⟨by kernel_rfl,by kernel_rfl,by kernel_rfl,by kernel_rfl⟩
theorem bsl6 (h:ak) (k a b:Nat):dD 1 (.int .u8 0) 6 [(0,.int .u8 83),(1,.int .u8 87),(2,.int .u8 1),(3,.int .u8 (k:Int)),(4,u8 a),(5,u8 b)] h=some (.slice (some ⟨h.next,0,none⟩) 6 6,h.alloc (bI [83,87,1,k,a,b])):=rfl
section
variable {h:ak} {s:cP} {m:aZ} (hG:4≤h.n0) (hz:GZ h) (x:ej h s m)
include hG hz x
set_option maxRecDepth 100000 in
theorem r23 (sm:m.n.Small) : ∃ v h',CW 23 [mv m s] h=some (.tuple #[v,.int .i64 (if b9 m=true then 0 else 2)],h')∧cM h' h.next v (if b9 m=true then enc m else [])∧Old h h':=by
 obtain ⟨h1,b1,o1,X1,A1,n1,ea⟩:=dg x
 have gb:h1.get h.next=some (m.d.cells s):=by rw [ea,ak.aM,if_pos rfl]
 have hG1:4≤h1.n0:=by rw [o1.n0];exact hG
 obtain ⟨h2,e2,o2⟩:=r25 hG1 (hz.bm o1) X1 sm
 have O2:=o1.trans o2
 cases v:b9 m with
 |false=>
  rw [v] at e2
  refine ⟨.slice none 0 0,h2,aG is23 hG rfl ((t23_eq _ _ _).trans ?_),.nil _ _,O2⟩
  rw [if_neg (by decide)]
  unfold t23
  simp -implicitDefEqProofs only [b1, A1.all, e2, ah, aq, Bool.not_false, au, Bool.and_true, ao, Nat.zero_add]
 |true=>
  rw [v] at e2
  rw [if_pos rfl,if_pos rfl]
  have A2:=bW (x.bm O2) (Old.get o2 gb)
  obtain ⟨w3,h3,e3,W3,o3⟩:=r57 (h:=h2) (by rw [O2.n0];exact hG) (hz.bm O2) (x.bm O2) v
  have O3:=O2.trans o3
  have o13:=o2.trans o3
  have A3:=bW (x.bm O3) (Old.get o13 gb)
  have hle:=enc_le x.wf v
  have hle2:(dC m.kind m).length≤1000000:=by
   unfold enc eH at hle
   simp only [List.length_append,aF] at hle
   omega
  have ln:=W3.own.bE
  have cl:dU .u64 (aN (dC m.kind m).length) h3=some (.int .u64 (((dC m.kind m).length:Nat):Int),h3):=by
   unfold aN
   rw [bX,eY (by omega) (by omega)]
  have cf:=cv8i .i64 m.from_
  have ct:=cv8i .i64 m.eu
  obtain ⟨w4,h4,e4,W4,o4⟩:=r58 h3 (by rw [O3.n0];exact hG) (n:=(dC m.kind m).length) (k:=4) (by decide) (by decide) (by omega)
  have e4:CW 58 [.int .u64 (((dC m.kind m).length:Nat):Int),.int .i64 4] h3=_:=e4
  have O4:=O3.trans o4
  have A4:=bW (x.bm O4) (Old.get (o13.trans o4) gb)
  have b5:=bsl6 h4 m.kind (i8 m.from_) (i8 m.eu)
  have hb6:Bys [83,87,1,m.kind,i8 m.from_,i8 m.eu]:=fun z hz=>by
   simp only [List.mem_cons,List.not_mem_nil,or_false] at hz
   rcases hz with rfl|rfl|rfl|rfl|rfl|rfl
   ·decide
   ·decide
   ·decide
   ·exact x.wf.kind
   ·exact cX _
   ·exact cX _
  have ka:Old h4 (h4.alloc (bI [83,87,1,m.kind,i8 m.from_,i8 m.eu])):=Kept.alloc _ _ _
  have W4':=W4.dV ka (fun _ _ h=>h)
  obtain ⟨a4,c4,E4,T4,_⟩:=W4'.bytes
  rw [E4] at e4
  obtain ⟨v6,h6,e6,O6,k6⟩:=append_lit (c:=c4) (bytesL h4 hb6) T4 (by rw [aF];decide) (by rw [aF];simp only [List.length_cons,List.length_nil];omega)
  have e6:aO 1 1 (.slice (some ⟨h4.next,0,none⟩) 6 6) (.slice a4 (cG 4 (dC m.kind m).length).length c4) (h4.alloc (bI [83,87,1,m.kind,i8 m.from_,i8 m.eu]))=some (v6,h6):=e6
  have kk:=ka.trans k6
  have O6':=O4.trans kk
  have O6:=O6.weak (M:=h.next) (Nat.le_trans O4.next ka.next)
  have W3':=W3.dV (o4.trans kk) (fun _ _ h=>h)
  obtain ⟨v7,h7,e7,O7,K7⟩:=ep O6' O6 (Kept.refl _ _) W3' (by rw [List.length_append,aF];simp only [List.length_cons,List.length_nil];omega)
  obtain ⟨a7,c7,E7,T7,_⟩:=O7.bytes
  have hF:([83,87,1,m.kind,i8 m.from_,i8 m.eu]++cG 4 (dC m.kind m).length)++dC m.kind m=eH m:=by
   unfold eH
   rw [show cG 2 21335 = [83,87] by decide,show cG 1 1 = [1] by decide,beB1 x.wf.kind,beB1 (cX _),beB1 (cX _)]
   simp only [List.cons_append, List.nil_append]
  rw [hF] at O7 E7 T7
  have hfl:(eH m).length≤1000000:=by
   unfold enc at hle
   rw [List.length_append] at hle
   omega
  have e8:=r39 (h:=h7) (by rw [K7.n0];exact hG) (c:=c7) T7 hfl
  have crl:=crcN_lt O7.byte
  have cv:dU .u64 (u32 (crcN (eH m))) h7=some (.int .u64 ((crcN (eH m):Nat):Int),h7):=by
   unfold u32
   rw [bX,eY (by omega) (by omega)]
  obtain ⟨w9,h9,e9,W9,o9⟩:=r58 h7 (by rw [K7.n0];exact hG) (n:=crcN (eH m)) (k:=4) (by decide) (by decide) (by omega)
  have e9:CW 58 [.int .u64 ((crcN (eH m):Nat):Int),.int .i64 4] h7=_:=e9
  obtain ⟨v10,h10,e10,O10,K10⟩:=ep K7 O7 o9 W9 (by rw [aF];omega)
  rw [E7] at e7 e10
  refine ⟨v10,h10,aG is23 hG rfl ((t23_eq _ _ _).trans ?_),O10,K10⟩
  unfold t23
  simp -implicitDefEqProofs only [b1, A1.all, e2, A2.all, e3, A3.l0, A3.l1, A3.l2, cf, ct, ln, cl, e4, A4.l0, A4.l1, A4.l2, b5, e6, e7, e8, cv, e9, e10, ah, aq, Bool.not_true, au, Bool.and_true, Bool.and_self, ao, Nat.zero_add, db]
omit hz in
set_option maxRecDepth 100000 in
theorem r24 (sm:m.n.Small) : ∃ h',CW 24 [mv m s] h=some (.tuple #[aN (if b9 m=true then (enc m).length else 0),.int .i64 (if b9 m=true then 0 else 2)],h')∧Old h h':=by
 obtain ⟨h1,b1,o1,X1,A1,n1,ea⟩:=dg x
 have hG1:4≤h1.n0:=by rw [o1.n0];exact hG
 cases v:b9 m with
 |false=>
  obtain ⟨h2,e2,o2⟩:=r21_bad (h:=h1) hG1 X1 sm v
  refine ⟨h2,aG is24 hG rfl ((t24_eq _ _ _).trans ?_),o1.trans o2⟩
  rw [if_neg (by decide),if_neg (by decide)]
  have ln:bE (.slice none 0 0)=some (aN 0):=rfl
  unfold t24
  simp -implicitDefEqProofs only [b1, A1.all, e2, ln, ah, aq, bM, bN]
 |true=>
  obtain ⟨a2,c2,h2,e2,_,_,o2,_⟩:=r21 (h:=h1) hG1 X1 sm v
  refine ⟨h2,aG is24 hG rfl ((t24_eq _ _ _).trans ?_),o1.trans o2⟩
  rw [if_pos rfl,if_pos rfl]
  have ln:bE (.slice a2 (enc m).length c2)=some (aN (enc m).length):=rfl
  unfold t24
  simp -implicitDefEqProofs only [b1, A1.all, e2, ln, ah, aq, bM, bN]
end
end Go.Proofs.YtjghlcdidopcpaaGreatDoor

namespace Go.Proofs.YtjghlcdidopcpaaGreatDoor
open Go Go.Abs
attribute [local congr] aP
theorem strOf_size (l:List Nat):(bQ l).size=l.length:=by simp [bQ,ByteArray.size]
theorem strOf_add (l m:List Nat):bQ l++bQ m=bQ (l++m):=by
 apply ByteArray.ext
 rw [ByteArray.data_append]
 simp [bQ]
theorem strOf_take (l:List Nat) (n:Nat):(bQ l).extract 0 n=bQ (l.take n):=by
 apply ByteArray.ext
 rw [ByteArray.data_extract]
 simp [bQ,List.extract_eq_take_drop]
theorem str_add {a b:ByteArray} (h:a.size+b.size≤1000000):bin Tryz.prog .add 9 (.string a) (.string b)=some (.string (a++b)):=by
 unfold bin eqOk
 simp only [if_true]
 unfold binA
 simp only [ground,flat,Bool.and_self,if_true]
 have e : (binOp .add 9 (.string a) (.string b)) = (if ((a.size + b.size : Nat) : Int) > IntKind.i64.max then unsupported (Unsupported.resourceLimit "string concatenation: a sum of the lengths that is no int") else pure (.string (a ++ b))) := rfl
 rw [e,if_neg (by have:IntKind.i64.max=9223372036854775807:=rfl;omega)]
 rfl
theorem dQ (l m:List Nat) (h:l.length+m.length≤1000000):bin Tryz.prog .add 9 (.string (bQ l)) (.string (bQ m))=some (.string (bQ (l++m))):=by
 rw [str_add (by rw [strOf_size,strOf_size];exact h),strOf_add]
theorem slS8 {l:List Nat} (h:8≤l.length):slS (.string (bQ l)) none (some (.int .i64 8)) none=some (.string (bQ (l.take 8))):=by
 unfold slS sliceSl
 simp only [di,cW,strOf_size]
 rw [if_pos (by omega)]
 simp only
 rw [←strOf_take]
 rfl
theorem is16:bB Tryz.prog 16 Tryz.f16:=⟨by kernel_rfl,by kernel_rfl,by kernel_rfl,by kernel_rfl⟩
theorem is17:bB Tryz.prog 17 Tryz.f17:=⟨by kernel_rfl,by kernel_rfl,by kernel_rfl,by kernel_rfl⟩
theorem is64:bB Tryz.prog 64 Tryz.f64:=⟨by kernel_rfl,by kernel_rfl,by kernel_rfl,by kernel_rfl⟩
theorem is65:bB Tryz.prog 65 Tryz.f65:=⟨by kernel_rfl,by kernel_rfl,by kernel_rfl,by kernel_rfl⟩
theorem is66:bB Tryz.prog 66 Tryz.f66:=⟨by kernel_rfl,by kernel_rfl,by kernel_rfl,by kernel_rfl⟩
theorem is67:bB Tryz.prog 67 Tryz.f67:=⟨by kernel_rfl,by kernel_rfl,by kernel_rfl,by kernel_rfl⟩
theorem is93:bB Tryz.prog 93 Tryz.f93:=⟨by kernel_rfl,by kernel_rfl,by kernel_rfl,by kernel_rfl⟩
theorem is124:bB Tryz.prog 124 Tryz.f124:=⟨by kernel_rfl,by kernel_rfl,by kernel_rfl,by kernel_rfl⟩
theorem is141:bB Tryz.prog 141 Tryz.f141:=⟨by kernel_rfl,by kernel_rfl,by kernel_rfl,by kernel_rfl⟩
def decL (i:Nat):List Nat:=if i<10 then [48+i] else [49,38+i]
theorem dec_len (i:Nat):(decL i).length≤2:=by unfold decL;split<;>simp
theorem t141_at (h:ak) : ∀ i:Nat,i<16→t141 CW (aN i) h=some (.string (bQ (decL i)),h)
 | 0,_=>by kernel_rfl
 | 1,_=>by kernel_rfl
 | 2,_=>by kernel_rfl
 | 3,_=>by kernel_rfl
 | 4,_=>by kernel_rfl
 | 5,_=>by kernel_rfl
 | 6,_=>by kernel_rfl
 | 7,_=>by kernel_rfl
 | 8,_=>by kernel_rfl
 | 9,_=>by kernel_rfl
 | 10,_=>by kernel_rfl
 | 11,_=>by kernel_rfl
 | 12,_=>by kernel_rfl
 | 13,_=>by kernel_rfl
 | 14,_=>by kernel_rfl
 | 15,_=>by kernel_rfl
 |k+16,h=>absurd h (by omega)
theorem r141 {h:ak} (hG:4≤h.n0) {i:Nat} (hi:i<16):CW 141 [aN i] h=some (.string (bQ (decL i)),h):=aG is141 hG rfl ((t141_eq _ _ _).trans (t141_at h i hi))
theorem r64 {h:ak} (hG:4≤h.n0) {i:Nat} (hi:i<16):CW 64 [aN i] h=some (.string (bQ (decL i)),h):=by
 have e:=r141 hG hi
 have l1:bin Tryz.prog .leq 2 (.int .i64 0) (aN i)=some (.bool true):=by unfold aN;rw [aC,decide_eq_true (by omega)]
 have l2:bin Tryz.prog .lss 2 (aN i) (.int .i64 100)=some (.bool true):=by unfold aN;rw [aD,decide_eq_true (by omega)]
 have l0:bin Tryz.prog .eql 3 (.int .i64 10) (.int .i64 10)=some (.bool true):=by rw [ay];rfl
 have e1:CW 124 [aN i,.int .i64 10] h=some (.string (bQ (decL i)),h):=by
  refine aG is124 hG rfl ((t124_eq _ _ _ _).trans ?_)
  unfold t124
  simp -implicitDefEqProofs only [l0, l1, l2, e, ah, aq, ar, beq_self_eq_true, aj, if_true]
 have e2:CW 93 [aN i] h=some (.string (bQ (decL i)),h):=by
  refine aG is93 hG rfl ((t93_eq _ _ _).trans ?_)
  unfold t93
  simp -implicitDefEqProofs only [e1, ah]
 refine aG is64 hG rfl ((t64_eq _ _ _).trans ?_)
 unfold t64
 simp -implicitDefEqProofs only [e2, ah]
theorem r66 {h:ak} (hG:4≤h.n0) {i:Nat} (hi:i<16) : ∃ h',CW 66 [aN i] h=some (.string (bQ (decL i)),h')∧Old h h':=by
 have ge:bin Tryz.prog .geq 3 (aN i) (.int .i64 10)=some (.bool (decide ((i:Int)≥10))):=aB ..
 have a1:bin Tryz.prog .add 3 (.int .i64 48) (aN i)=some (aN (48+i)):=add3 (a:=48) (by omega)
 by_cases c:i<10
 ·rw [decide_eq_false (by omega)] at ge
  have cv:=cv8n (48+i) h (by omega)
  have b1:=bsl1 h (48+i)
  have s1:=cvBS_at (c:=1) (bytes1 h (show 48+i<256 by omega))
  have hd:decL i = [48+i]:=by unfold decL;rw [if_pos c]
  refine ⟨h.alloc [u8 (48+i)],aG is66 hG rfl ((t66_eq _ _ _).trans ?_),Kept.alloc _ _ _⟩
  rw [hd]
  unfold t66
  simp -implicitDefEqProofs only [ge, a1, cv, b1, s1, ah, aq]
 ·rw [decide_eq_true (by omega)] at ge
  have su:bin Tryz.prog .sub 3 (aN (48+i)) (.int .i64 10)=some (aN (48+i-10)):=sub3 (b:=10) (by omega) (by omega)
  rw [show 48+i-10=38+i by omega] at su
  have cv:=cv8n (38+i) h (by omega)
  have b1:=bsl1 h (38+i)
  have s1:=cvBS_at (c:=1) (bytes1 h (show 38+i<256 by omega))
  have ad:bin Tryz.prog .add 9 (.string ⟨#[49]⟩) (.string (bQ [38+i]))=some (.string (bQ [49,38+i])):=dQ [49] [38+i] (by simp)
  have hd:decL i = [49,38+i]:=by unfold decL;rw [if_neg c]
  refine ⟨h.alloc [u8 (38+i)],aG is66 hG rfl ((t66_eq _ _ _).trans ?_),Kept.alloc _ _ _⟩
  rw [hd]
  unfold t66
  simp -implicitDefEqProofs only [ge, a1, su, cv, b1, s1, ad, ah, aq]
def nmL (k:Nat):List Nat:=(fmN k).1.map UInt8.toNat
theorem nmB_eq (k:Nat):(⟨(fmN k).1.toArray⟩:ByteArray)=bQ (nmL k):=by
 unfold bQ nmL
 rw [List.map_map]
 congr 2
 rw [show (UInt8.ofNat∘UInt8.toNat)=id from funext fun x=>UInt8.ofNat_toNat]
 simp
theorem nm_len {k:Nat} (hk:cq k=true):(nmL k).length≤10:=by
 rcases kinds hk with rfl|rfl|rfl|rfl|rfl|rfl|rfl|rfl|rfl|rfl|rfl|rfl|rfl<;>decide
theorem fm_ok (k:Nat):(fmC k).length=5∧aS (fmC k)=true:=by
 refine ⟨rfl,?_⟩
 have f : ∀ n,(fnV n).oneCell'=true:=fun n=>by unfold fnV;split<;>rfl
 unfold fmC aS
 simp only [List.all_cons,List.all_nil,f]
 rfl
theorem r16 {h:ak} (hG:4≤h.n0) {k:Nat} (hk:k<256) : ∃ h',CW 16 [.int .u8 (k:Int)] h=some (.string (bQ (nmL k)),h')∧Old h h':=by
 obtain ⟨h1,e1,o1⟩:=r35 hG hk
 obtain ⟨h2,z2,o2,g2,n2⟩:=fresh [(.string ⟨#[]⟩),.nilFunc,.nilFunc,.nilFunc,.nilFunc] h1
 obtain ⟨h3,e3,k3,g3,_,_⟩:=dr (n:=5) (k':=fmC k) g2 (by rw [o2.n0];exact h1.bg) rfl (fm_ok k).1 (fm_ok k).2
 have l3:aK (ptr h1.next 0) h3=some (.string (bQ (nmL k)),h3):=by
  rw [←nmB_eq]
  exact bf g3 rfl rfl
 refine ⟨h3,aG is16 hG rfl ((t16_eq _ _ _).trans ?_),o1.trans (Old.of_new o2 k3 (Nat.le_refl _))⟩
 unfold t16
 simp -implicitDefEqProofs only [e1, z2, e3, l3, ah, aq, bM, bN, ao, Nat.zero_add]
def namesC:List Value := [(.string ⟨#[]⟩),(.string ⟨#[112,105,110,103]⟩),(.string ⟨#[97,99,107]⟩),(.string ⟨#[112,105,110,103,114,101,113]⟩),(.string ⟨#[115,117,109]⟩),(.string ⟨#[105,116,101,109,115]⟩),(.string ⟨#[99,108,97,105,109]⟩),(.string ⟨#[102,101,116,99,104]⟩),(.string ⟨#[111,102,102,101,114]⟩),(.string ⟨#[108,97,99,107]⟩),(.string ⟨#[105,110,115,116,97,108,108]⟩),(.string ⟨#[115,116,111,114,101,100]⟩),(.string ⟨#[97,115,107]⟩),(.string ⟨#[107,101,101,112]⟩)]
theorem bslN (h:ak):dD 1 (.string ⟨#[]⟩) 14 [(0,(.string ⟨#[]⟩)),(1,(.string ⟨#[112,105,110,103]⟩)),(2,(.string ⟨#[97,99,107]⟩)),(3,(.string ⟨#[112,105,110,103,114,101,113]⟩)),(4,(.string ⟨#[115,117,109]⟩)),(5,(.string ⟨#[105,116,101,109,115]⟩)),(6,(.string ⟨#[99,108,97,105,109]⟩)),(7,(.string ⟨#[102,101,116,99,104]⟩)),(8,(.string ⟨#[111,102,102,101,114]⟩)),(9,(.string ⟨#[108,97,99,107]⟩)),(10,(.string ⟨#[105,110,115,116,97,108,108]⟩)),(11,(.string ⟨#[115,116,111,114,101,100]⟩)),(12,(.string ⟨#[97,115,107]⟩)),(13,(.string ⟨#[107,101,101,112]⟩))] h=some (.slice (some ⟨h.next,0,none⟩) 14 14,h.alloc namesC):=rfl
theorem names_at : ∀ k:Nat,k<14→namesC[k]? = some (.string ⟨(fmN k).1.toArray⟩)
 | 0,_=>rfl
 | 1,_=>rfl
 | 2,_=>rfl
 | 3,_=>rfl
 | 4,_=>rfl
 | 5,_=>rfl
 | 6,_=>rfl
 | 7,_=>rfl
 | 8,_=>rfl
 | 9,_=>rfl
 | 10,_=>rfl
 | 11,_=>rfl
 | 12,_=>rfl
 | 13,_=>rfl
 |k+14,h=>absurd h (by omega)
theorem r17 {h:ak} (hG:4≤h.n0) {k:Nat} (hk:k<14) : ∃ h',CW 17 [.int .u8 (k:Int)] h=some (.string (bQ (nmL k)),h')∧Old h h':=by
 have b1:=bslN h
 have g1:(h.alloc namesC).get h.next=some namesC:=by rw [ak.aM,if_pos rfl]
 have gt:bin Tryz.prog .gtr 24 (.int .u8 (k:Int)) (.int .u8 13)=some (.bool false):=by rw [aE,decide_eq_false (by omega)]
 have ix:cD 1 (.slice (some ⟨h.next,0,none⟩) 14 14) (.int .u8 (k:Int))=some (ptr h.next k):=by
  unfold cD
  simp only
  rw [if_pos (by omega),Int.toNat_natCast,Nat.mul_one,Nat.zero_add]
 have l1:aK (ptr h.next k) (h.alloc namesC)=some (.string (bQ (nmL k)),h.alloc namesC):=by
  rw [←nmB_eq]
  exact bf g1 (names_at k hk) rfl
 refine ⟨h.alloc namesC,aG is17 hG rfl ((t17_eq _ _ _).trans ?_),Kept.alloc _ _ _⟩
 unfold t17
 simp -implicitDefEqProofs only [b1, gt, ix, l1, ah, aq]
end Go.Proofs.YtjghlcdidopcpaaGreatDoor

namespace Go.Proofs.YtjghlcdidopcpaaGreatDoor
open Go Go.Abs
attribute [local congr] aP
def hexD (n:Nat):Nat:=if n<10 then 48+n else 87+n
def hexP (b:Nat):List Nat := [hexD (b/16),hexD (b%16)]
def hexL (l:List Nat):List Nat:=l.flatMap hexP
theorem hexL_len (l:List Nat):(hexL l).length=2*l.length:=by
 unfold hexL
 rw [eZ (z:=2) l (fun a _=>rfl)]
 omega
theorem hexD_lt {n:Nat} (h:n<16):hexD n<256:=by unfold hexD;split<;>omega
theorem ixS_hex : ∀ n:Nat,n<16→ixS (.string ⟨#[48,49,50,51,52,53,54,55,56,57,97,98,99,100,101,102]⟩) (u8 n)=some (u8 (hexD n))
 | 0,_=>by kernel_rfl
 | 1,_=>by kernel_rfl
 | 2,_=>by kernel_rfl
 | 3,_=>by kernel_rfl
 | 4,_=>by kernel_rfl
 | 5,_=>by kernel_rfl
 | 6,_=>by kernel_rfl
 | 7,_=>by kernel_rfl
 | 8,_=>by kernel_rfl
 | 9,_=>by kernel_rfl
 | 10,_=>by kernel_rfl
 | 11,_=>by kernel_rfl
 | 12,_=>by kernel_rfl
 | 13,_=>by kernel_rfl
 | 14,_=>by kernel_rfl
 | 15,_=>by kernel_rfl
 |k+16,h=>absurd h (by omega)
theorem slS_hex : ∀ n:Nat,n<16 → ∃ t,slS (.string ⟨#[48,49,50,51,52,53,54,55,56,57,97,98,99,100,101,102]⟩) (some (u8 n)) none none=some t∧slS t none (some (.int .i64 1)) none=some (.string (bQ [hexD n]))
 | 0,_=>⟨_,rfl,by kernel_rfl⟩
 | 1,_=>⟨_,rfl,by kernel_rfl⟩
 | 2,_=>⟨_,rfl,by kernel_rfl⟩
 | 3,_=>⟨_,rfl,by kernel_rfl⟩
 | 4,_=>⟨_,rfl,by kernel_rfl⟩
 | 5,_=>⟨_,rfl,by kernel_rfl⟩
 | 6,_=>⟨_,rfl,by kernel_rfl⟩
 | 7,_=>⟨_,rfl,by kernel_rfl⟩
 | 8,_=>⟨_,rfl,by kernel_rfl⟩
 | 9,_=>⟨_,rfl,by kernel_rfl⟩
 | 10,_=>⟨_,rfl,by kernel_rfl⟩
 | 11,_=>⟨_,rfl,by kernel_rfl⟩
 | 12,_=>⟨_,rfl,by kernel_rfl⟩
 | 13,_=>⟨_,rfl,by kernel_rfl⟩
 | 14,_=>⟨_,rfl,by kernel_rfl⟩
 | 15,_=>⟨_,rfl,by kernel_rfl⟩
 |k+16,h=>absurd h (by omega)
theorem shr4 (b:Nat):bin Tryz.prog .shr 5 (u8 b) (.int .u64 4)=some (u8 (b/16)):=eF Tryz.prog 5 (k := .u8) (k' := .u64) (a:=b) (b:=4) (by decide)
theorem and15 {b:Nat} (h:b<256):bin Tryz.prog .and 5 (u8 b) (.int .u8 15)=some (u8 (b%16)):=by
 have:=bin_and_nat Tryz.prog 5 (k := .u8) rfl (a:=b) (b:=15) h (by decide)
 rw [show b &&& 15=b%16 from Nat.and_two_pow_sub_one_eq_mod b 4] at this
 exact this
theorem ixA1_at {d:List Nat} {i:Nat} (hd:d.length=32) (hi:i<32):ixA1 32 1 (.agg (bI d).toArray) (aN i)=some (u8 (d.getD i 0)):=by
 unfold ixA1 aN
 simp only
 rw [if_pos ⟨by omega,by omega⟩,Int.toNat_natCast,Nat.mul_one,List.getElem?_toArray,List.getElem?_map,List.getD_eq_getElem?_getD,List.getElem?_eq_getElem (by omega)]
 rfl
theorem app_cap {g:ak} {R n k c cap:Nat} {K:dA} {a:Option Addr} {m:List Nat} (gR:g.get R=some K) (h0:g.n0≤R) (hm:aJ a k g=some m) (hk:0<k) (hc:n+k≤cap) (hcap:cap≤K.length) (hb:cap≤1000000) :
  ∃ g',aO 1 1 (.slice (some ⟨R,0,none⟩) n cap) (.slice a k c) g=some (.slice (some ⟨R,0,none⟩) (n+k) cap,g')∧g'.get R=some (bw K n (bI m))∧Kept g g' (· = R):=by
 obtain ⟨m1,mb,_⟩:=ba hm
 have f2:=firstA_of hm (Nat.le_refl k) (c:=c)
 rw [List.take_of_length_le (by omega)] at f2
 refine ⟨g.set R (bw K n (bI m)),?_,ak.cS h0 gR _,Kept.set h0 gR (.inr rfl)⟩
 unfold aO
 simp only [show lenA (.slice a k c)=some k from rfl,f2]
 have c1:((!(aS (m.map u8)) || !(decide ((n+k)*1≤140737488355328)) || !(decide (n+k≤4611686018427387904))||decide ((m.map u8).length≠k*1))=true)↔False:=by
  rw [one_u8,decide_eq_true (by omega),decide_eq_true (by omega),decide_eq_false (by simp;omega)]
  simp
 rw [if_neg (by rw [c1];exact id),if_pos hc,if_neg (by omega)]
 unfold stL
 simp only [gR]
 rw [if_pos (by
  have:0+n*1+(m.map u8).length≤K.length:=by rw [List.length_map];omega
  rw [decide_eq_true h0,decide_eq_true this,one_u8]
  rfl)]
 rw [Nat.zero_add,Nat.mul_one]
 rfl
theorem b65_exit (C:av) (e:Env) (h:ak):b65_4 C 0 e h=k65_2 C e h:=rfl
theorem b67_exit (C:av) (e:Env) (h:ak):b67_4 C 0 e h=k67_2 C e h:=rfl
def hxInv (h0:ak) (R:Nat) (d:List Nat) (k:Nat) (y:Nat→Value) (g:ak):Prop:=
 ∃ i,i+k=32∧y 7 = .agg (bI d).toArray∧y 8=aN i∧y 3 = .slice (some ⟨R,0,none⟩) (2*i) 64∧Kept h0 g (· = R)∧g.get R=some (bI (hexL (d.take i)++List.replicate (64-2*i) 0))
def hxFin (h0:ak) (R:Nat) (d:List Nat) (ex:Ex) (y:Nat→Value) (g:ak):Prop:=
 ex = .exit 0∧y 3 = .slice (some ⟨R,0,none⟩) 64 64∧Kept h0 g (· = R)∧g.get R=some (bI (hexL d))
theorem hxRound {h0:ak} {R:Nat} {d:List Nat} (hd:D32 d) (hR:h0.n0≤R) (hRn:R<h0.next) : ∀ k y g,hxInv h0 R d k y g→dw 23 (hxInv h0 R d) (hxFin h0 R d) k (t65l65_11010 CW y g):=by
 rintro k y g ⟨i,hik,y7,y8,y3,K,gR⟩
 have l32:bin Tryz.prog .lss 3 (aN i) (.int .i64 32)=some (.bool (decide (i<32))):=dI i 32
 unfold t65l65_11010
 by_cases hi:i<32
 ·rw [decide_eq_true hi] at l32
  have i1:=ixA1_at hd.1 hi
  have hb:d.getD i 0<256:=by
   rw [List.getD_eq_getElem?_getD,List.getElem?_eq_getElem (by rw [hd.1];exact hi)]
   exact hd.2 _ (List.getElem_mem _)
  have hs:d.take (i+1)=d.take i ++ [d.getD i 0]:=take_snocN (by rw [hd.1];exact hi)
  generalize d.getD i 0=b at *
  have s1:=shr4 b
  have s2:=ixS_hex (b/16) (by omega)
  have s3:=and15 hb
  have s4:=ixS_hex (b%16) (by omega)
  have b5:=bsl2 g (hexD (b/16)) (hexD (b%16))
  have hb2:Bys [hexD (b/16),hexD (b%16)]:=fun z hz=>by
   simp only [List.mem_cons,List.not_mem_nil,or_false] at hz
   rcases hz with rfl|rfl
   ·exact hexD_lt (by omega)
   ·exact hexD_lt (by omega)
  have ka:Old g (g.alloc (bI [hexD (b/16),hexD (b%16)])):=Kept.alloc _ _ _
  have hlen:(hexL (d.take i)).length=2*i:=by rw [hexL_len,List.length_take,hd.1];omega
  obtain ⟨g6,e6,g6R,k6⟩:=app_cap (n:=2*i) (k:=2) (c:=2) (cap:=64) (Old.get ka gR) (by rw [ka.n0,K.n0];exact hR) (bytesL g hb2) (by decide) (by omega) (by simp only [List.length_map,List.length_append,hlen,List.length_replicate];omega) (by decide)
  have hsp:bw (bI (hexL (d.take i)++List.replicate (64-2*i) 0)) (2*i) (bI [hexD (b/16),hexD (b%16)])=bI (hexL (d.take (i+1))++List.replicate (64-2*(i+1)) 0):=by
   rw [show 64-2*i=2+(64-2*(i+1)) by omega,←List.replicate_append_replicate,hs]
   unfold hexL
   rw [List.flatMap_append,List.flatMap_cons,List.flatMap_nil,List.append_nil]
   simp only [bI,List.map_append]
   rw [splice_app (n:=2) (by rw [List.length_map];exact hlen) (by simp) (by simp),List.append_assoc]
   rfl
  rw [hsp] at g6R
  have e6:aO 1 1 (.slice (some ⟨R,0,none⟩) (2*i) 64) (.slice (some ⟨g.next,0,none⟩) 2 2) (g.alloc (bI [hexD (b/16),hexD (b%16)]))=some (.slice (some ⟨R,0,none⟩) (2*i+2) 64,g6):=e6
  simp -implicitDefEqProofs only [y8, y7, y3, l32, i1, s1, s2, s3, s4, b5, e6, eT (show i+1≤9223372036854775807 by omega), ah, aq]
  exact dw.next (k-1) (by omega) ⟨i+1,by omega,y7,rfl,rfl,(K.trans (ka.mono (fun _ _ h=>h.elim))).trans k6,g6R⟩
 ·rw [decide_eq_false hi] at l32
  obtain rfl:i=32:=by omega
  simp -implicitDefEqProofs only [y8, l32, ah, aq]
  refine dw.out 0 ⟨rfl,y3,K,?_⟩
  rw [List.take_of_length_le (by rw [hd.1];decide)] at gR
  simpa using gR
set_option maxRecDepth 100000 in
theorem r65 {h:ak} (hG:4≤h.n0) {d:List Nat} (hd:D32 d) : ∃ h',CW 65 [.agg (bI d).toArray] h=some (.string (bQ (hexL d)),h')∧Old h h':=by
 have b1:box (.agg (bI d).toArray) h=some (ptr h.next 0,h.alloc (bI d)):=c9 h _ (u8s_ok d).2
 have o1:Old h (h.alloc (bI d)):=Kept.alloc _ _ _
 have g1:(h.alloc (bI d)).get h.next=some (bI d):=by rw [ak.aM,if_pos rfl]
 have n1:(h.alloc (bI d)).next=h.next+1:=ak.cA ..
 generalize h.alloc (bI d)=h1 at *
 have m1:mkR 1 1 (.int .u8 0) (.int .i64 0) (.int .i64 64) h1=some (.slice (some ⟨h1.next,0,none⟩) 0 64,h1.alloc (df [(.int .u8 0)] 64)):=rfl
 have o2:Old h1 (h1.alloc (df [(.int .u8 0)] 64)):=Kept.alloc _ _ _
 have g2:(h1.alloc (df [(.int .u8 0)] 64)).get h1.next=some (df [(.int .u8 0)] 64):=by rw [ak.aM,if_pos rfl]
 have n2:(h1.alloc (df [(.int .u8 0)] 64)).next=h1.next+1:=ak.cA ..
 rw [zeros_u8] at m1 o2 g2 n2
 generalize h1.alloc ((List.replicate 64 0).map u8)=h2 at *
 have l2:bP 32 (ptr h.next 0) h2=some (.agg (bI d).toArray,h2):=ldN_all (Old.get o2 g1) (b6 hd) (u8s_ok d).1
 have key : ∃ h',t65 CW (.agg (bI d).toArray) h=some (.string (bQ (hexL d)),h')∧Old h h':=by
  unfold t65
  simp -implicitDefEqProofs only [b1, m1, l2, ah]
  refine cy (Q:=fun o:Out => ∃ h',o=some (Value.string (bQ (hexL d)),h')∧Old h h') (cn (t65l65_11010_eq CW) (hxRound (h0:=h2) (R:=h1.next) hd (by rw [o2.n0];exact h1.bg) (by omega)) 32 (by decide)
   ⟨0,rfl,rfl,rfl,rfl,Kept.refl _ _,by simpa [hexL] using g2⟩) ?_
  rintro ex z g ⟨rfl,z3,K,gR⟩
  rw [bG,b65_exit,t65k65_2_eq]
  unfold t65k65_2
  have hb:Bys (hexL d):=fun x hx=>by
   obtain ⟨b,hb,hx⟩:=List.mem_flatMap.1 hx
   have:=hd.2 b hb
   unfold hexP at hx
   simp only [List.mem_cons,List.not_mem_nil,or_false] at hx
   rcases hx with rfl|rfl
   ·exact hexD_lt (by omega)
   ·exact hexD_lt (by omega)
  have sb:=dZ (h:=g) (b:=h1.next) (off:=0) (n:=64) (s:=none) gR (by rw [hexL_len,hd.1];decide) hb
  rw [List.drop_zero,List.take_of_length_le (by rw [hexL_len,hd.1];decide)] at sb
  have s1:=cvBS_at (c:=64) sb
  refine ⟨g,?_,(o1.trans o2).also K (fun c hc e=>by omega)⟩
  simp -implicitDefEqProofs only [z3, s1, ah]
 obtain ⟨h',e,o⟩:=key
 exact ⟨h',aG is65 hG rfl ((t65_eq _ _ _).trans e),o⟩
def dqInv (B:Nat) (d:List Nat) (g0:ak) (k:Nat) (y:Nat→Value) (g:ak):Prop:=
 ∃ i,i+k=32∧y 1=ptr B 0∧y 4=aN i∧y 3 = .string (bQ (hexL (d.take i)))∧g=g0
def dqFin (d:List Nat) (g0:ak) (ex:Ex) (y:Nat→Value) (g:ak):Prop:=
 ex = .exit 0∧y 3 = .string (bQ (hexL d))∧g=g0
theorem dqRound {B:Nat} {d:List Nat} {g0:ak} (hd:D32 d) (gb:g0.get B=some (bI d)) : ∀ k y g,dqInv B d g0 k y g→dw 25 (dqInv B d g0) (dqFin d g0) k (t67l67_11010 CW y g):=by
 rintro k y g ⟨i,hik,y1,y4,y3,rfl⟩
 have l32:bin Tryz.prog .lss 3 (aN i) (.int .i64 32)=some (.bool (decide (i<32))):=dI i 32
 unfold t67l67_11010
 by_cases hi:i<32
 ·rw [decide_eq_true hi] at l32
  have i1:=idxA32 B i hi
  have l1:aK (ptr B i) g=some (u8 (d.getD i 0),g):=bf gb (by rw [List.getElem?_map,List.getD_eq_getElem?_getD,List.getElem?_eq_getElem (by rw [hd.1];exact hi)];rfl) rfl
  have hb:d.getD i 0<256:=by
   rw [List.getD_eq_getElem?_getD,List.getElem?_eq_getElem (by rw [hd.1];exact hi)]
   exact hd.2 _ (List.getElem_mem _)
  have hs:d.take (i+1)=d.take i ++ [d.getD i 0]:=take_snocN (by rw [hd.1];exact hi)
  have hlen:(hexL (d.take i)).length=2*i:=by rw [hexL_len,List.length_take,hd.1];omega
  generalize d.getD i 0=b at *
  have s1:=shr4 b
  obtain ⟨t,s2,s3⟩:=slS_hex (b/16) (by omega)
  have s4:=and15 hb
  obtain ⟨t',s5,s6⟩:=slS_hex (b%16) (by omega)
  have a1:=dQ [hexD (b/16)] [hexD (b%16)] (by simp)
  have a2:=dQ (hexL (d.take i)) ([hexD (b/16)] ++ [hexD (b%16)]) (by rw [hlen];simp;omega)
  simp -implicitDefEqProofs only [y4, y1, y3, l32, i1, l1, s1, s2, s3, s4, s5, s6, a1, a2, eT (show i+1≤9223372036854775807 by omega), ah, aq]
  refine dw.next (k-1) (by omega) ⟨i+1,by omega,y1,rfl,?_,rfl⟩
  show Value.string _=_
  rw [hs]
  unfold hexL
  rw [List.flatMap_append,List.flatMap_cons,List.flatMap_nil,List.append_nil]
  rfl
 ·rw [decide_eq_false hi] at l32
  obtain rfl:i=32:=by omega
  simp -implicitDefEqProofs only [y4, l32, ah, aq]
  refine dw.out 0 ⟨rfl,?_,rfl⟩
  rw [List.take_of_length_le (by rw [hd.1];decide)] at y3
  exact y3
theorem r67 {h:ak} (hG:4≤h.n0) {d:List Nat} (hd:D32 d) : ∃ h',CW 67 [.agg (bI d).toArray] h=some (.string (bQ (hexL d)),h')∧Old h h':=by
 have b1:box (.agg (bI d).toArray) h=some (ptr h.next 0,h.alloc (bI d)):=c9 h _ (u8s_ok d).2
 have o1:Old h (h.alloc (bI d)):=Kept.alloc _ _ _
 have g1:(h.alloc (bI d)).get h.next=some (bI d):=by rw [ak.aM,if_pos rfl]
 generalize h.alloc (bI d)=h1 at *
 have key : ∃ h',t67 CW (.agg (bI d).toArray) h=some (.string (bQ (hexL d)),h')∧Old h h':=by
  unfold t67
  simp -implicitDefEqProofs only [b1, ah]
  refine cy (Q:=fun o:Out => ∃ h',o=some (Value.string (bQ (hexL d)),h')∧Old h h') (cn (t67l67_11010_eq CW) (dqRound (B:=h.next) (g0:=h1) hd g1) 32 (by decide)
   ⟨0,rfl,rfl,rfl,rfl,rfl⟩) ?_
  rintro ex z g ⟨rfl,z3,rfl⟩
  rw [bG,b67_exit,t67k67_2_eq]
  unfold t67k67_2
  exact ⟨g,by simp -implicitDefEqProofs only [z3, ah],o1⟩
 obtain ⟨h',e,o⟩:=key
 exact ⟨h',aG is67 hG rfl ((t67_eq _ _ _).trans e),o⟩
theorem is26:bB Tryz.prog 26 Tryz.f26:=⟨by kernel_rfl,by kernel_rfl,by kernel_rfl,by kernel_rfl⟩
theorem is27:bB Tryz.prog 27 Tryz.f27:=⟨by kernel_rfl,by kernel_rfl,by kernel_rfl,by kernel_rfl⟩
def descP (m:aZ):List Nat:=(((decL m.from_.toNat ++ [62])++decL m.eu.toNat) ++ [32])++nmL m.kind
def descL (m:aZ):List Nat:=if b9 m=true then (if 6≤m.kind then descP m++([32]++(hexL m.obj).take 8) else descP m) else []
theorem str_self (a:ByteArray):bin Tryz.prog .eql 9 (.string a) (.string a)=some (.bool true):=by
 unfold bin eqOk
 simp only [if_true]
 unfold binA
 simp only [ground,flat,Bool.and_self,if_true]
 have e:(binOp .eql 9 (.string a) (.string a))=pure (.bool (a.toList==a.toList)):=rfl
 rw [e,beq_self_eq_true]
 rfl
section
variable {h:ak} {s:cP} {m:aZ} (hG:4≤h.n0) (x:ej h s m)
include hG x
set_option maxRecDepth 100000 in
theorem r26 (sm:m.n.Small) : ∃ h',CW 26 [mv m s] h=some (.string (bQ (descL m)),h')∧Old h h':=by
 obtain ⟨h1,b1,o1,X1,A1,n1,ea⟩:=dg x
 have gb:h1.get h.next=some (m.d.cells s):=by rw [ea,ak.aM,if_pos rfl]
 have hG1:4≤h1.n0:=by rw [o1.n0];exact hG
 obtain ⟨h2,e2,o2⟩:=r19 (h:=h1) hG1 X1 sm
 have O2:=o1.trans o2
 have hz:bQ []=⟨#[]⟩:=rfl
 unfold descL
 cases v:b9 m with
 |false=>
  rw [v] at e2
  rw [if_neg (by decide)] at e2 ⊢
  have q2:bin Tryz.prog .neq 35 (.int .i64 2) (.int .i64 0)=some (.bool true):=by rw [aA];rfl
  refine ⟨h2,aG is26 hG rfl ((t26_eq _ _ _).trans ?_),O2⟩
  unfold t26
  simp -implicitDefEqProofs only [b1, A1.all, e2, q2, hz, ah, aq, Bool.and_true, ao, Nat.zero_add]
 |true=>
  rw [v] at e2
  rw [if_pos rfl] at e2 ⊢
  have q2:bin Tryz.prog .neq 35 (.int .i64 0) (.int .i64 0)=some (.bool false):=by rw [aA];rfl
  obtain ⟨hk,p1,p2,_⟩:=valid_all v
  have p1:=peer_of p1
  have p2:=peer_of p2
  have kk:=kinds hk
  have G2:4≤h2.n0:=by rw [O2.n0];exact hG
  have L : ∀ g,Old h1 g→MLd g h.next s m:=fun g o=>bW (X1.bm o) (Old.get o gb)
  have A2:=L h2 o2
  have e3:=r64 (h:=h2) G2 (i:=m.from_.toNat) (by omega)
  have e4:=r64 (h:=h2) G2 (i:=m.eu.toNat) (by omega)
  have t1:aN m.from_.toNat = .int .i64 m.from_:=by unfold aN;congr 1;omega
  have t2:aN m.eu.toNat = .int .i64 m.eu:=by unfold aN;congr 1;omega
  rw [t1] at e3
  rw [t2] at e4
  obtain ⟨h5,e5,o5⟩:=r16 (h:=h2) G2 (k:=m.kind) (by omega)
  have d1:=dec_len m.from_.toNat
  have d2:=dec_len m.eu.toNat
  have d3:=nm_len hk
  have a1:bin Tryz.prog .add 9 (.string (bQ (decL m.from_.toNat))) (.string ⟨#[62]⟩)=_:=dQ _ [62] (by simp;omega)
  have a2:=dQ (decL m.from_.toNat ++ [62]) (decL m.eu.toNat) (by simp;omega)
  have a3:bin Tryz.prog .add 9 (.string (bQ ((decL m.from_.toNat ++ [62])++decL m.eu.toNat))) (.string ⟨#[32]⟩)=_:=dQ _ [32] (by simp;omega)
  have a4:=dQ (((decL m.from_.toNat ++ [62])++decL m.eu.toNat) ++ [32]) (nmL m.kind) (by simp;omega)
  have A5:=L h5 (o2.trans o5)
  have ge:bin Tryz.prog .geq 24 (.int .u8 (m.kind:Int)) (.int .u8 6)=some (.bool (decide ((m.kind:Int)≥6))):=aB ..
  have dl:(descP m).length≤20:=by unfold descP;simp;omega
  by_cases c6:6≤m.kind
  ·rw [if_pos c6]
   rw [decide_eq_true (by omega)] at ge
   obtain ⟨h7,e7,o7⟩:=r65 (h:=h5) (by rw [(o2.trans o5).n0,o1.n0];exact hG) x.wf.obj
   have s8:=slS8 (l:=hexL m.obj) (by rw [hexL_len,x.wf.obj.1];decide)
   have a5:bin Tryz.prog .add 9 (.string ⟨#[32]⟩) (.string (bQ ((hexL m.obj).take 8)))=_:=dQ [32] _ (by simp;omega)
   have a6:=dQ (descP m) ([32]++(hexL m.obj).take 8) (by simp;omega)
   refine ⟨h7,aG is26 hG rfl ((t26_eq _ _ _).trans ?_),(O2.trans o5).trans o7⟩
   unfold t26
   simp -implicitDefEqProofs only [b1, A1.all, e2, q2, A2.l1, e3, a1, A2.l2, e4, a2, a3, A2.l0, e5, a4, A5.l0, ge, A5.b8, e7, s8, a5, ah, aq, Bool.and_true, Bool.and_self, ao, Nat.zero_add, db]
   unfold descP at a6 ⊢
   simp -implicitDefEqProofs only [a6, ah, aq]
  ·rw [if_neg c6]
   rw [decide_eq_false (by omega)] at ge
   refine ⟨h5,aG is26 hG rfl ((t26_eq _ _ _).trans ?_),O2.trans o5⟩
   unfold t26
   simp -implicitDefEqProofs only [b1, A1.all, e2, q2, A2.l1, e3, a1, A2.l2, e4, a2, a3, A2.l0, e5, a4, A5.l0, ge, ah, aq, Bool.and_true, Bool.and_self, ao, Nat.zero_add, db]
   rfl
set_option maxRecDepth 100000 in
theorem r27 (hz:GZ h) (sm:m.n.Small) : ∃ h',CW 27 [mv m s] h=some (.string (bQ (descL m)),h')∧Old h h':=by
 obtain ⟨h1,b1,o1,X1,A1,n1,ea⟩:=dg x
 have gb:h1.get h.next=some (m.d.cells s):=by rw [ea,ak.aM,if_pos rfl]
 have hG1:4≤h1.n0:=by rw [o1.n0];exact hG
 obtain ⟨h2,e2,o2⟩:=r25 (h:=h1) hG1 (hz.bm o1) X1 sm
 have O2:=o1.trans o2
 have hzz:bQ []=⟨#[]⟩:=rfl
 unfold descL
 cases v:b9 m with
 |false=>
  rw [v] at e2
  rw [if_neg (by decide)]
  refine ⟨h2,aG is27 hG rfl ((t27_eq _ _ _).trans ?_),O2⟩
  unfold t27
  simp -implicitDefEqProofs only [b1, A1.all, e2, hzz, ah, aq, Bool.not_false, au, Bool.and_true, ao, Nat.zero_add]
 |true=>
  rw [v] at e2
  rw [if_pos rfl]
  obtain ⟨hk,p1,p2,_⟩:=valid_all v
  have p1:=peer_of p1
  have p2:=peer_of p2
  have kk:=kinds hk
  have G2:4≤h2.n0:=by rw [O2.n0];exact hG
  have L : ∀ g,Old h1 g→MLd g h.next s m:=fun g o=>bW (X1.bm o) (Old.get o gb)
  have A2:=L h2 o2
  obtain ⟨h3,e3,o3⟩:=r66 (h:=h2) G2 (i:=m.from_.toNat) (by omega)
  have A3:=L h3 (o2.trans o3)
  have G3:4≤h3.n0:=by rw [o3.n0];exact G2
  obtain ⟨h4,e4,o4⟩:=r66 (h:=h3) G3 (i:=m.eu.toNat) (by omega)
  have A4:=L h4 ((o2.trans o3).trans o4)
  have G4:4≤h4.n0:=by rw [o4.n0];exact G3
  have t1:aN m.from_.toNat = .int .i64 m.from_:=by unfold aN;congr 1;omega
  have t2:aN m.eu.toNat = .int .i64 m.eu:=by unfold aN;congr 1;omega
  rw [t1] at e3
  rw [t2] at e4
  obtain ⟨h5,e5,o5⟩:=r17 (h:=h4) G4 (k:=m.kind) (by omega)
  have O5:=((o2.trans o3).trans o4).trans o5
  have d1:=dec_len m.from_.toNat
  have d2:=dec_len m.eu.toNat
  have d3:=nm_len hk
  have a1:bin Tryz.prog .add 9 (.string (bQ (decL m.from_.toNat))) (.string ⟨#[62]⟩)=_:=dQ _ [62] (by simp;omega)
  have a2:=dQ (decL m.from_.toNat ++ [62]) (decL m.eu.toNat) (by simp;omega)
  have a3:bin Tryz.prog .add 9 (.string (bQ ((decL m.from_.toNat ++ [62])++decL m.eu.toNat))) (.string ⟨#[32]⟩)=_:=dQ _ [32] (by simp;omega)
  have a4:=dQ (((decL m.from_.toNat ++ [62])++decL m.eu.toNat) ++ [32]) (nmL m.kind) (by simp;omega)
  have A5:=L h5 O5
  have ge:bin Tryz.prog .geq 24 (.int .u8 (m.kind:Int)) (.int .u8 6)=some (.bool (decide ((m.kind:Int)≥6))):=aB ..
  have dl:(descP m).length≤20:=by unfold descP;simp;omega
  by_cases c6:6≤m.kind
  ·rw [if_pos c6]
   rw [decide_eq_true (by omega)] at ge
   obtain ⟨h7,e7,o7⟩:=r67 (h:=h5) (by rw [O5.n0,o1.n0];exact hG) x.wf.obj
   have s8:=slS8 (l:=hexL m.obj) (by rw [hexL_len,x.wf.obj.1];decide)
   have a5:bin Tryz.prog .add 9 (.string ⟨#[32]⟩) (.string (bQ ((hexL m.obj).take 8)))=_:=dQ [32] _ (by simp;omega)
   have a6:=dQ (descP m) ([32]++(hexL m.obj).take 8) (by simp;omega)
   refine ⟨h7,aG is27 hG rfl ((t27_eq _ _ _).trans ?_),(o1.trans O5).trans o7⟩
   unfold t27
   simp -implicitDefEqProofs only [b1, A1.all, e2, A2.l1, e3, a1, A3.l2, A2.l2, e4, a2, a3, A4.l0, A3.l0, A2.l0, e5, a4, A5.l0, ge, A5.b8, e7, s8, a5, ah, aq, Bool.not_true, au, Bool.and_true, Bool.and_self, ao, Nat.zero_add, db]
   unfold descP at a6 ⊢
   simp -implicitDefEqProofs only [a6, ah, aq]
  ·rw [if_neg c6]
   rw [decide_eq_false (by omega)] at ge
   refine ⟨h5,aG is27 hG rfl ((t27_eq _ _ _).trans ?_),o1.trans O5⟩
   unfold t27
   simp -implicitDefEqProofs only [b1, A1.all, e2, A2.l1, e3, a1, A3.l2, A2.l2, e4, a2, a3, A4.l0, A3.l0, A2.l0, e5, a4, A5.l0, ge, ah, aq, Bool.not_true, au, Bool.and_true, Bool.and_self, ao, Nat.zero_add, db]
   rfl
end
end Go.Proofs.YtjghlcdidopcpaaGreatDoor

