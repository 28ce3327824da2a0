/-
  A part of the proof, spaces and names shortened by a program (a claim may hold 1,500,000 bytes).
  Conditions: as each theorem states.
-/
import Derived.Test.YtjghlcdidopcpaaGreatDoorG12
namespace Go.Proofs.YtjghlcdidopcpaaGreatDoor
open Go Go.Abs
attribute [local congr] aU
theorem copy_mid {h:aj} {b off dc c n:Nat} {s:Option Nat} {a:Option Addr} {A B C:List Value} {l:List Nat} (g:h.get b=some (A++(B++C))) (h0:h.n0≤b) (hA:A.length=off) (hB:B.length=n) (hs:ay a n h=some l) (hn:0<n) :
  ∃ g',copyA 1 (.slice (some ⟨b,off,s⟩) n dc) (.slice a n c) h=some (aH n,g')∧Kept h g' (· = b)∧g'.get b=some (A++(bP l++C))∧g'.next=h.next:=by
 obtain ⟨hl,hb,_⟩:=aw hs
 have hf:=firstA_of hs (Nat.le_refl n) (c:=c)
 rw [List.take_of_length_le (by omega)] at hf
 have hsp:bI (A++(B++C)) off (bP l)=A++(bP l++C):=splice_app hA hB (by rw [List.length_map];exact hl)
 refine ⟨h.set b (A++(bP l++C)),?_,Kept.set h0 g (.inr rfl),aj.cx h0 g _,rfl⟩
 unfold copyA
 simp only [lenA]
 rw [Nat.min_self,hf]
 simp only
 rw [if_neg (by omega)]
 unfold stL
 simp only [g]
 rw [if_pos (by
  have h1:off+(bP l).length≤(A++(B++C)).length:=by rw [List.length_append,List.length_append,List.length_map,hA,hB];omega
  simp only [decide_eq_true h0,decide_eq_true h1,(cJ l).2,Bool.and_self]),hsp]
 rfl
section
variable {x:bK} (ho:x.obj.length=32)
include ho
theorem rset33 (v:Int):(recC x).set 33 (.int .i64 v)=recC { x with dq:=v }:=cF (A := .int .u8 (x.kind:Int)::bP x.obj) 0 (by simp [ho]) rfl
theorem rset34 (v:Nat):(recC x).set 34 (.int .u64 (v:Int))=recC { x with inc:=v }:=cF (A := .int .u8 (x.kind:Int)::bP x.obj) 1 (by simp [ho]) rfl
theorem rset35 (v:Nat):(recC x).set 35 (.int .u64 (v:Int))=recC { x with num:=v }:=cF (A := .int .u8 (x.kind:Int)::bP x.obj) 2 (by simp [ho]) rfl
theorem rset36 (v:Bool):(recC x).set 36 (.bool v)=recC { x with held:=v }:=cF (A := .int .u8 (x.kind:Int)::bP x.obj) 3 (by simp [ho]) rfl
theorem rset37 (v:Int):(recC x).set 37 (.int .i64 v)=recC { x with k:=v }:=cF (A := .int .u8 (x.kind:Int)::bP x.obj) 4 (by simp [ho]) rfl
theorem rset38 (v:Int):(recC x).set 38 (.int .i64 v)=recC { x with n:=v }:=cF (A := .int .u8 (x.kind:Int)::bP x.obj) 5 (by simp [ho]) rfl
theorem recC_len:(recC x).length=39:=by unfold recC bP;simp [ho]
end
def decRx (l:List Nat):bK:=⟨be (l.take 1),(l.drop 1).take 32,(be ((l.drop 33).take 1):Nat),be ((l.drop 34).take 8),be ((l.drop 42).take 8),be ((l.drop 50).take 1)==1,(be ((l.drop 51).take 1):Nat),(be ((l.drop 52).take 1):Nat)⟩
def dA (l:List Nat):bK×Int:=
 if l.length<53 then (bK.z,4) else if 53<l.length then (bK.z,3) else if 1<be ((l.drop 50).take 1) then (bK.z,5) else if recB (decRx l) then (decRx l,0) else (bK.z,2)
theorem be1_lt {l:List Nat} (hb:Bys l) (j:Nat):be ((l.drop j).take 1)<256:=be_lt' (n:=1) (by rw [List.length_take];omega) fun x hx=>hb x (List.mem_of_mem_drop (List.mem_of_mem_take hx))
theorem be8_lt {l:List Nat} (hb:Bys l) (j:Nat):be ((l.drop j).take 8)<18446744073709551616:=be_lt' (n:=8) (by rw [List.length_take];omega) fun x hx=>hb x (List.mem_of_mem_drop (List.mem_of_mem_take hx))
theorem i64_nat {n:Nat} (h:n<256):I64 (n:Int):=⟨by omega,by omega⟩
theorem bK.fZ:bK.z.Wf:=⟨by decide,z32_ok,eW,by decide,by decide,eW,eW⟩
theorem decRx_wf {l:List Nat} (hl:l.length=53) (hb:Bys l):(decRx l).Wf:=
 ⟨be1_lt hb 0,⟨by show ((l.drop 1).take 32).length=32;rw [List.length_take,List.length_drop];omega,fun x hx=>hb x (List.mem_of_mem_drop (List.mem_of_mem_take hx))⟩,i64_nat (be1_lt hb 33),be8_lt hb 34,be8_lt hb 42,i64_nat (be1_lt hb 51),i64_nat (be1_lt hb 52)⟩
theorem decR_wf {l:List Nat} (hb:Bys l):(dA l).1.Wf:=by
 unfold dA
 split
 ·exact bK.fZ
 split
 ·exact bK.fZ
 split
 ·exact bK.fZ
 split
 ·exact decRx_wf (by omega) hb
 ·exact bK.fZ
theorem agg61:aggT Tryz.prog 61=some true:=by kernel_rfl
theorem siz61:cD Tryz.prog 61=some 39:=by kernel_rfl
theorem results140:Tryz.f140.results.toList = [.cell 2 61,.tmp 3]:=by kernel_rfl
theorem is140:bO Tryz.prog 140 Tryz.f140:=⟨by kernel_rfl,by kernel_rfl,by kernel_rfl,by kernel_rfl⟩
theorem rec_end {h0 h:aj} {b:Nat} {k:dB} (o:Old h0 h) (hb:h0.next≤b) (g:h.get b=some k) (hk:k.length=39) {r:bK} (w:r.Wf) : ∃ h',bw 39 (ptr b 0) (.agg (recC r).toArray) h=some (undef,h')∧bD 39 (ptr b 0) h'=some (.agg (recC r).toArray,h')∧Old h0 h':=by
 have hn:h.n0≤b:=by rw [o.n0];exact Nat.le_trans h0.aK hb
 obtain ⟨h',e1,k1,g1,_,_⟩:=bJ (n:=39) g hn hk (bL w).1 (bL w).2.2
 exact ⟨h',e1,cA g1 (bL w).1 (bL w).2.1,Old.eF o k1 hb⟩
set_option maxRecDepth 100000 in
theorem q140 {h:aj} (hG:4≤h.n0) {a:Option Addr} {n c:Nat} {l:List Nat} (hl:ay a n h=some l) (hn:n≤21000) : ∃ h',CW 140 [.slice a n c] h=some (.tuple #[.agg (recC (dA l).1).toArray,.int .i64 (dA l).2],h')∧Old h h':=by
 obtain ⟨hlen,hby,_⟩:=aw hl
 obtain ⟨h1,z1,o1,g1,n1⟩:=fresh [(.int .u8 0),(.int .u8 0),(.int .u8 0),(.int .u8 0),(.int .u8 0),(.int .u8 0),(.int .u8 0),(.int .u8 0),(.int .u8 0),(.int .u8 0),(.int .u8 0),(.int .u8 0),(.int .u8 0),(.int .u8 0),(.int .u8 0),(.int .u8 0),(.int .u8 0),(.int .u8 0),(.int .u8 0),(.int .u8 0),(.int .u8 0),(.int .u8 0),(.int .u8 0),(.int .u8 0),(.int .u8 0),(.int .u8 0),(.int .u8 0),(.int .u8 0),(.int .u8 0),(.int .u8 0),(.int .u8 0),(.int .u8 0),(.int .u8 0),(.int .i64 0),(.int .u64 0),(.int .u64 0),(.bool false),(.int .i64 0),(.int .i64 0)] h
 have bz:bU [(.int .u8 0),(.int .u8 0),(.int .u8 0),(.int .u8 0),(.int .u8 0),(.int .u8 0),(.int .u8 0),(.int .u8 0),(.int .u8 0),(.int .u8 0),(.int .u8 0),(.int .u8 0),(.int .u8 0),(.int .u8 0),(.int .u8 0),(.int .u8 0),(.int .u8 0),(.int .u8 0),(.int .u8 0),(.int .u8 0),(.int .u8 0),(.int .u8 0),(.int .u8 0),(.int .u8 0),(.int .u8 0),(.int .u8 0),(.int .u8 0),(.int .u8 0),(.int .u8 0),(.int .u8 0),(.int .u8 0),(.int .u8 0),(.int .u8 0),(.int .i64 0),(.int .u64 0),(.int .u64 0),(.bool false),(.int .i64 0),(.int .i64 0)] []=some (.agg (recC bK.z).toArray):=rfl
 have hln:bG (.slice a n c)=some (aH n):=rfl
 unfold dA
 by_cases c1:l.length<53
 ·rw [if_pos c1]
  have q1:bin Tryz.prog .lss 3 (aH n) (.int .i64 53)=some (.bool true):=by rw [aC,decide_eq_true (by omega)]
  obtain ⟨h2,e2,l2,o2⟩:=rec_end o1 (Nat.le_refl _) g1 rfl bK.fZ
  refine ⟨h2,aF is140 hG rfl ((t140_eq _ _ _).trans ?_),o2⟩
  unfold t140
  simp -implicitDefEqProofs only [z1,hln,q1,bz,e2,af,ak]
  exact bp results140 agg61 siz61 (show 2<58 by decide) (show 3<58 by decide) _ l2
 rw [if_neg c1]
 have q1:bin Tryz.prog .lss 3 (aH n) (.int .i64 53)=some (.bool false):=by rw [aC,decide_eq_false (by omega)]
 by_cases c2:53<l.length
 ·rw [if_pos c2]
  have q2:bin Tryz.prog .gtr 3 (aH n) (.int .i64 53)=some (.bool true):=by rw [aB,decide_eq_true (by omega)]
  obtain ⟨h2,e2,l2,o2⟩:=rec_end o1 (Nat.le_refl _) g1 rfl bK.fZ
  refine ⟨h2,aF is140 hG rfl ((t140_eq _ _ _).trans ?_),o2⟩
  unfold t140
  simp -implicitDefEqProofs only [z1,hln,q1,q2,bz,e2,af,ak]
  exact bp results140 agg61 siz61 (show 2<58 by decide) (show 3<58 by decide) _ l2
 rw [if_neg c2]
 have q2:bin Tryz.prog .gtr 3 (aH n) (.int .i64 53)=some (.bool false):=by rw [aB,decide_eq_false (by omega)]
 have h53:l.length=53:=by omega
 obtain ⟨r,h2,e2,R2,o2,lr⟩:=r32 (h:=h1) (by rw [o1.n0];exact hG) (c:=c) (Old.bytes o1 hl) hn
 have rl2:=R2.lt
 obtain ⟨h3,e3,K3⟩:=r73 R2 (by omega)
 have R3:=K3.rd
 have O3:Old h1 h3:=o2.cE K3.kept (fun d hd e=>by omega)
 have n3:=K3.next
 have bk:bU [(.int .u8 0),(.int .u8 0),(.int .u8 0),(.int .u8 0),(.int .u8 0),(.int .u8 0),(.int .u8 0),(.int .u8 0),(.int .u8 0),(.int .u8 0),(.int .u8 0),(.int .u8 0),(.int .u8 0),(.int .u8 0),(.int .u8 0),(.int .u8 0),(.int .u8 0),(.int .u8 0),(.int .u8 0),(.int .u8 0),(.int .u8 0),(.int .u8 0),(.int .u8 0),(.int .u8 0),(.int .u8 0),(.int .u8 0),(.int .u8 0),(.int .u8 0),(.int .u8 0),(.int .u8 0),(.int .u8 0),(.int .u8 0),(.int .u8 0),(.int .i64 0),(.int .u64 0),(.int .u64 0),(.bool false),(.int .i64 0),(.int .i64 0)] [(0,1,.int .u8 ((be (l.take 1):Nat):Int))]=some (.agg (recC { bK.z with kind:=be (l.take 1) }).toArray):=rfl
 have wk:({ bK.z with kind:=be (l.take 1) }:bK).Wf:={ bK.fZ with kind:=be1_lt hby 0 }
 obtain ⟨h4,z4,o4,g4,n4⟩:=fresh [(.int .u8 0),(.int .u8 0),(.int .u8 0),(.int .u8 0),(.int .u8 0),(.int .u8 0),(.int .u8 0),(.int .u8 0),(.int .u8 0),(.int .u8 0),(.int .u8 0),(.int .u8 0),(.int .u8 0),(.int .u8 0),(.int .u8 0),(.int .u8 0),(.int .u8 0),(.int .u8 0),(.int .u8 0),(.int .u8 0),(.int .u8 0),(.int .u8 0),(.int .u8 0),(.int .u8 0),(.int .u8 0),(.int .u8 0),(.int .u8 0),(.int .u8 0),(.int .u8 0),(.int .u8 0),(.int .u8 0),(.int .u8 0),(.int .u8 0),(.int .i64 0),(.int .u64 0),(.int .u64 0),(.bool false),(.int .i64 0),(.int .i64 0)] h3
 have p4:h4.n0≤h3.next:=by rw [o4.n0];exact h3.aK
 obtain ⟨h5,e5,k5,g5,p5,n5⟩:=bJ (n:=39) (k':=recC { bK.z with kind:=be (l.take 1) }) g4 p4 rfl (bL wk).1 (bL wk).2.2
 have o35:Old h3 h5:=Old.eF o4 k5 (Nat.le_refl _)
 have O5:=O3.trans o35
 have R5:=R3.dY o35 (fun _ _ h=>h)
 obtain ⟨a6,c6,h6,e6,s6,_,R6,k6,_⟩:=r74 R5 (n:=32) (by rw [List.length_drop];omega)
 have e6:CW 74 [ptr r 0,.int .i64 32] h5=_:=e6
 have O6:Old h1 h6:=O5.cE k6 (fun d hd e=>by omega)
 have hD:r<h3.next:=by omega
 have g6:h6.get h3.next=some (recC { bK.z with kind:=be (l.take 1) }):=k6.dj g5 (by omega)
 have p6:h6.n0≤h3.next:=by rw [k6.n0];exact p5
 obtain ⟨h7,e7,k7,g7,n7⟩:=copy_mid (A := [.int .u8 ((be (l.take 1):Nat):Int)]) (B:=bP z32) (C := [.int .i64 0,.int .u64 0,.int .u64 0,.bool false,.int .i64 0,.int .i64 0]) (off:=1) (n:=32) (dc:=32) (c:=c6) (s:=none) g6 p6 rfl rfl s6 (by decide)
 have kD : ∀ {b:Nat},b=r∨(h1.next≤b∧b<r) → ¬b=h3.next:=fun hb e=>by omega
 have R7:=R6.dY k7 (fun b hb e=>kD hb e)
 have O7:Old h1 h7:=O6.cE k7 (fun d hd e=>by have:=O3.next;omega)
 have p7:h7.n0≤h3.next:=by rw [k7.n0];exact p6
 have g7:h7.get h3.next=some (recC { bK.z with kind:=be (l.take 1),obj:=(l.drop 1).take 32 }):=g7
 rw [List.drop_drop] at R7
 have hobj:((l.drop 1).take 32).length=32:=by rw [List.length_take,List.length_drop];omega
 obtain ⟨h8,e8,K8⟩:=r73 R7 (by rw [List.length_drop];omega)
 have R8:=K8.rd
 rw [List.drop_drop] at R8
 have O8:Old h1 h8:=O7.cE K8.kept (fun d hd e=>by omega)
 have g8:=K8.kept.dj g7 (by omega)
 have p8:h8.n0≤h3.next:=by rw [K8.kept.n0];exact p7
 obtain ⟨h9,e9,K9⟩:=r128 R8 (by rw [List.length_drop];omega)
 have R9:=K9.rd
 rw [List.drop_drop] at R9
 have O9:Old h1 h9:=O8.cE K9.kept (fun d hd e=>by omega)
 have g9:=K9.kept.dj g8 (by omega)
 have p9:h9.n0≤h3.next:=by rw [K9.kept.n0];exact p8
 obtain ⟨h10,e10,K10⟩:=r128 R9 (by rw [List.length_drop];omega)
 have R10:=K10.rd
 rw [List.drop_drop] at R10
 have O10:Old h1 h10:=O9.cE K10.kept (fun d hd e=>by omega)
 have g10:=K10.kept.dj g9 (by omega)
 have p10:h10.n0≤h3.next:=by rw [K10.kept.n0];exact p9
 obtain ⟨h11,e11,k11,g11,p11,_⟩:=stored (v := .int .i64 ((be ((l.drop 33).take 1):Nat):Int)) (o:=33) g10 p10 (by rw [recC_len hobj];decide) rfl rfl
 rw [rset33 hobj] at g11
 have R11:=R10.dY k11 (fun b hb e=>kD hb e)
 have O11:Old h1 h11:=O10.cE k11 (fun d hd e=>by have:=O3.next;omega)
 obtain ⟨h12,e12,k12,g12,p12,_⟩:=stored (v := .int .u64 ((be ((l.drop 34).take 8):Nat):Int)) (o:=34) g11 p11 (by rw [recC_len hobj];decide) rfl rfl
 rw [rset34 hobj] at g12
 have R12:=R11.dY k12 (fun b hb e=>kD hb e)
 have O12:Old h1 h12:=O11.cE k12 (fun d hd e=>by have:=O3.next;omega)
 obtain ⟨h13,e13,k13,g13,p13,_⟩:=stored (v := .int .u64 ((be ((l.drop 42).take 8):Nat):Int)) (o:=35) g12 p12 (by rw [recC_len hobj];decide) rfl rfl
 rw [rset35 hobj] at g13
 have R13:=R12.dY k13 (fun b hb e=>kD hb e)
 have O13:Old h1 h13:=O12.cE k13 (fun d hd e=>by have:=O3.next;omega)
 obtain ⟨h14,e14,K14⟩:=r73 R13 (by rw [List.length_drop];omega)
 have R14:=K14.rd
 rw [List.drop_drop] at R14
 have O14:Old h1 h14:=O13.cE K14.kept (fun d hd e=>by omega)
 have g14:=K14.kept.dj g13 (by omega)
 have p14:h14.n0≤h3.next:=by rw [K14.kept.n0];exact p13
 obtain ⟨h15,e15,K15⟩:=r73 R14 (by rw [List.length_drop];omega)
 have R15:=K15.rd
 rw [List.drop_drop] at R15
 have O15:Old h1 h15:=O14.cE K15.kept (fun d hd e=>by omega)
 have g15:=K15.kept.dj g14 (by omega)
 have p15:h15.n0≤h3.next:=by rw [K15.kept.n0];exact p14
 obtain ⟨h16,e16,K16⟩:=r73 R15 (by rw [List.length_drop];omega)
 have R16:=K16.rd
 rw [List.drop_drop] at R16
 have O16:Old h1 h16:=O15.cE K16.kept (fun d hd e=>by omega)
 have g16:=K16.kept.dj g15 (by omega)
 have p16:h16.n0≤h3.next:=by rw [K16.kept.n0];exact p15
 obtain ⟨h17,e17,k17,g17,p17,_⟩:=stored (v := .bool (be ((l.drop 50).take 1)==1)) (o:=36) g16 p16 (by rw [recC_len hobj];decide) rfl rfl
 rw [rset36 hobj] at g17
 have R17:=R16.dY k17 (fun b hb e=>kD hb e)
 have O17:Old h1 h17:=O16.cE k17 (fun d hd e=>by have:=O3.next;omega)
 obtain ⟨h18,e18,k18,g18,p18,_⟩:=stored (v := .int .i64 ((be ((l.drop 51).take 1):Nat):Int)) (o:=37) g17 p17 (by rw [recC_len hobj];decide) rfl rfl
 rw [rset37 hobj] at g18
 have R18:=R17.dY k18 (fun b hb e=>kD hb e)
 have O18:Old h1 h18:=O17.cE k18 (fun d hd e=>by have:=O3.next;omega)
 obtain ⟨h19,e19,k19,g19,p19,_⟩:=stored (v := .int .i64 ((be ((l.drop 52).take 1):Nat):Int)) (o:=38) g18 p18 (by rw [recC_len hobj];decide) rfl rfl
 rw [rset38 hobj] at g19
 have R19:=R18.dY k19 (fun b hb e=>kD hb e)
 have O19:Old h1 h19:=O18.cE k19 (fun d hd e=>by have:=O3.next;omega)
 have g19:h19.get h3.next=some (recC (decRx l)):=g19
 have wx:=decRx_wf h53 hby
 have l19:bD 39 (ptr h3.next 0) h19=some (.agg (recC (decRx l)).toArray,h19):=cA g19 (bL wx).1 (bL wx).2.1
 have w1 : ∀ j,IntKind.wrap .i64 ((be ((l.drop j).take 1):Nat):Int)=((be ((l.drop j).take 1):Nat):Int):=fun j=>by
  have:=be1_lt hby j
  exact wrap_i64 (by omega) (by omega)
 have w33:=w1 33
 have w51:=w1 51
 have w52:=w1 52
 have hheld:((((be ((l.drop 50).take 1):Nat):Int))==1)=(be ((l.drop 50).take 1)==1):=by
  by_cases e:be ((l.drop 50).take 1)=1
  ·rw [e];rfl
  ·rw [beq_eq_false_iff_ne.2 e,beq_eq_false_iff_ne.2 (by omega)]
 have g1':=Old.get O19 g1
 by_cases c3:1<be ((l.drop 50).take 1)
 ·rw [if_pos c3]
  have q3:bin Tryz.prog .gtr 5 (.int .u8 ((be ((l.drop 50).take 1):Nat):Int)) (.int .u8 1)=some (.bool true):=by rw [aB,decide_eq_true (by omega)]
  obtain ⟨h20,e20,l20,o20⟩:=rec_end (o1.trans O19) (Nat.le_refl _) g1' rfl bK.fZ
  refine ⟨h20,aF is140 hG rfl ((t140_eq _ _ _).trans ?_),o20⟩
  unfold t140
  simp -implicitDefEqProofs only [z1,hln,q1,q2,e2,e3,bk,z4,e5,al,Nat.zero_add,arr32,e6,e7,e8,e9,e10,e11,e12,e13,e14,e15,e16,e17,e18,e19,bq,w33,w51,w52,az,hheld,af,ak,q3,bz,e20]
  exact bp results140 agg61 siz61 (show 2<58 by decide) (show 3<58 by decide) _ l20
 rw [if_neg c3]
 have q3:bin Tryz.prog .gtr 5 (.int .u8 ((be ((l.drop 50).take 1):Nat):Int)) (.int .u8 1)=some (.bool false):=by rw [aB,decide_eq_false (by omega)]
 obtain ⟨h20,e20,o20⟩:=r138 (h:=h19) R19.g4 wx
 have O20:=o1.trans (O19.trans o20)
 have g1'':=Old.get o20 g1'
 cases c4:recB (decRx l) with
 |false=>
  rw [c4] at e20
  obtain ⟨h21,e21,l21,o21⟩:=rec_end O20 (Nat.le_refl _) g1'' rfl bK.fZ
  refine ⟨h21,aF is140 hG rfl ((t140_eq _ _ _).trans ?_),o21⟩
  unfold t140
  simp -implicitDefEqProofs only [z1,hln,q1,q2,e2,e3,bk,z4,e5,al,Nat.zero_add,arr32,e6,e7,e8,e9,e10,e11,e12,e13,e14,e15,e16,e17,e18,e19,bq,w33,w51,w52,az,hheld,af,ak,q3,l19,e20,av,Bool.not_false,bz,e21]
  exact bp results140 agg61 siz61 (show 2<58 by decide) (show 3<58 by decide) _ l21
 |true=>
  rw [c4] at e20
  have l20:bD 39 (ptr h3.next 0) h20=some (.agg (recC (decRx l)).toArray,h20):=cA (Old.get o20 g19) (bL wx).1 (bL wx).2.1
  obtain ⟨h21,e21,l21,o21⟩:=rec_end O20 (Nat.le_refl _) g1'' rfl wx
  refine ⟨h21,aF is140 hG rfl ((t140_eq _ _ _).trans ?_),o21⟩
  unfold t140
  simp -implicitDefEqProofs only [z1,hln,q1,q2,e2,e3,bk,z4,e5,al,Nat.zero_add,arr32,e6,e7,e8,e9,e10,e11,e12,e13,e14,e15,e16,e17,e18,e19,bq,w33,w51,w52,az,hheld,af,ak,q3,l19,e20,av,Bool.not_true,l20,e21]
  exact bp results140 agg61 siz61 (show 2<58 by decide) (show 3<58 by decide) _ l21
end Go.Proofs.YtjghlcdidopcpaaGreatDoor

namespace Go.Proofs.YtjghlcdidopcpaaGreatDoor
open Go Go.Abs
attribute [local congr] aU
structure dp where
 gk:Int
 gn:Int
 gt:Int
 gs:Int
 obj:List Nat
 pieces:List (List Nat)
def dp.z:dp:=⟨0,0,0,0,z32,[]⟩
def cK (m:dp) (v:Value):dB := [.int .i64 m.gk,.int .i64 m.gn,.int .i64 m.gt,.int .i64 m.gs]++(bP m.obj ++ [v])
structure dp.Wf (m:dp):Prop where
 gk:I64 m.gk
 gn:I64 m.gn
 gt:I64 m.gt
 gs:I64 m.gs
 obj:D32 m.obj
 pieces : ∀ x∈m.pieces,D32 x
theorem dp.fZ:dp.z.Wf:=⟨eW,eW,eW,eW,z32_ok,fun x hx=>by cases hx⟩
def br:Nat→Rd→List (List Nat)×Rd
 | 0,s=>([],s)
 |n+1,s=>(eH (s.take 32).1::(br n (s.take 32).2).1,(br n (s.take 32).2).2)
def pHead (l:List Nat):Nat×Nat×Nat×Nat×Nat×Rd:=
 let a0:=(⟨l,0⟩:Rd).num 2
 let a1:=a0.2.num 1
 let a2:=a1.2.num 1
 let a3:=a2.2.num 1
 let a4:=a3.2.num 2
 (a0.1,a1.1,a2.1,a3.1,a4.1,a4.2)
def cM (l:List Nat):dp×Int:=
 let q:=pHead l
 let s:=q.2.2.2.2.2
 if s.e≠0 then (dp.z,s.e) else
 if q.1≠19713 then (dp.z,5) else
 if dW q.2.1 q.2.2.1 q.2.2.2.1=false∨(8192:Int)<q.2.2.2.2.1 then (dp.z,2) else
 if (br q.2.2.2.1 (s.take 32).2).2.fin≠0 then (dp.z,(br q.2.2.2.1 (s.take 32).2).2.fin) else
 (⟨q.2.1,q.2.2.1,q.2.2.2.1,q.2.2.2.2.1,eH (s.take 32).1,(br q.2.2.2.1 (s.take 32).2).1⟩,0)
theorem pad_ok {s:Rd} (hb : ∀ x∈s.l,x<256):D32 (eH (s.take 32).1):=by
 refine ⟨pad_len (s.eD 32),fun x hx => ?_⟩
 unfold eH at hx
 rcases List.mem_append.1 hx with hx|hx
 ·exact (s.du hb 32).1 x hx
 ·have:=List.eq_of_mem_replicate hx
  omega
theorem fH {m:dp} {v:Value} (h:m.obj.length=32) (hv:isHole v=false∧v.oneCell'=true):(cK m v).length=37∧Abs.bH (cK m v)=true∧aQ (cK m v)=true:=by
 unfold cK
 refine ⟨?_,dK rfl (dK (cJ _).1 (noH_one hv.1)),dO rfl (dO (cJ _).2 (by simp [aQ,hv.2]))⟩
 simp [h]
theorem bsl_one {n:Nat} {z cells:List Value} (h:aj) (hz:z.length=n) (hf:flatAll z=true) (h0:0<n) (hn:n≤16777216) (hl:cells.length=n) (ho:aQ cells=true):bslR n (.agg z.toArray) 1 [(0,.agg cells.toArray)] h=some (.slice (some ⟨h.next,0,none⟩) 1 1,h.alloc cells):=by
 have c1:(Value.agg z.toArray).cells=z.toArray:=rfl
 have c2:(Value.agg cells.toArray).cells=cells.toArray:=rfl
 have hzz:dD z 1=z:=by simp [dD]
 unfold bslR
 simp only [c1,List.flatMap_cons,List.flatMap_nil,List.append_nil,c2,List.map_cons,List.map_nil,Nat.zero_mul,Nat.one_mul,List.size_toArray]
 rw [if_pos (by simp [hf,hz,h0,hn,ho]),hzz]
 have:=gq (z:=z) (A := []) (B:=z) (C := []) (B':=cells) (o:=0) (n:=n) (rest := []) (by simp) rfl hz hl
 rw [this]
 simp [de]
theorem mset4 {m:dp} {v:Value} {o:List Nat} (h:m.obj.length=32) (ho:o.length=32):bI (cK m v) 4 (bP o)=cK { m with obj:=o } v:=splice_app (A := [.int .i64 m.gk,.int .i64 m.gn,.int .i64 m.gt,.int .i64 m.gs]) (B:=bP m.obj) (n:=32) rfl (by simp [h]) (by simp [ho])
theorem mset36 {m:dp} {v w:Value} (h:m.obj.length=32):(cK m v).set 36 w=cK m w:=cF (A := [.int .i64 m.gk,.int .i64 m.gn,.int .i64 m.gt,.int .i64 m.gs]) 32 rfl (cF 0 (by simp [h]) rfl)
theorem mat36 {m:dp} {v:Value} (h:m.obj.length=32):(cK m v)[36]? = some v:=dy (A := [.int .i64 m.gk,.int .i64 m.gn,.int .i64 m.gt,.int .i64 m.gs]) 32 rfl (dy 0 (by simp [h]) rfl)
theorem stored_mid {h:aj} {b o n:Nat} {k B':dB} (g:h.get b=some k) (hn:h.n0≤b) (ho:o+n≤k.length) (hB:B'.length=n) (h1:aQ B'=true) : ∃ h2,bw n (ptr b o) (.agg B'.toArray) h=some (undef,h2)∧Kept h h2 (· = b)∧h2.get b=some (bI k o B')∧h2.n0≤b∧h2.next=h.next:=by
 refine ⟨h.set b (bI k o B'),?_,Kept.set hn g (.inr rfl),aj.cx hn g _,hn,rfl⟩
 unfold bw ptr
 have hc:(Value.agg B'.toArray).cells=B'.toArray:=rfl
 simp only [hc,List.size_toArray,hB,if_true]
 unfold stL
 simp only [g]
 rw [if_pos (by
  have:o+B'.length≤k.length:=by omega
  simp only [decide_eq_true hn,decide_eq_true this,h1,Bool.and_self])]
 rfl
theorem agg32:aggT Tryz.prog 32=some true:=by kernel_rfl
theorem siz32':cD Tryz.prog 32=some 37:=by kernel_rfl
theorem results134:Tryz.f134.results.toList = [.cell 2 32,.tmp 3]:=by kernel_rfl
theorem b134_exit (C:au) (e:Env) (h:aj):b134_17 C 0 e h=k134_15 C e h:=rfl
theorem is134:bO Tryz.prog 134 Tryz.f134:=⟨by kernel_rfl,by kernel_rfl,by kernel_rfl,by kernel_rfl⟩
theorem man_end {h0 h:aj} {b:Nat} {k k':dB} (o:Old h0 h) (hb:h0.next≤b) (g:h.get b=some k) (hk:k.length=37) (c:k'.length=37∧Abs.bH k'=true∧aQ k'=true) : ∃ h',bw 37 (ptr b 0) (.agg k'.toArray) h=some (undef,h')∧bD 37 (ptr b 0) h'=some (.agg k'.toArray,h')∧Old h0 h'∧Kept h h' (· = b):=by
 have hn:h.n0≤b:=by rw [o.n0];exact Nat.le_trans h0.aK hb
 obtain ⟨h',e1,k1,g1,_,_⟩:=bJ (n:=37) g hn hk c.1 c.2.2
 exact ⟨h',e1,cA g1 c.1 c.2.1,Old.eF o k1 hb,k1⟩
structure DmI (hl:aj) (p r D n:Nat) (m:dp) (c2:Value) (s0:Rd) (k:Nat) (y:Nat→Value) (g:aj) (i:Nat) (ps:List (List Nat)) (s1:Rd) (v:Value):Prop where
 ik:i+k=n
 y2:y 2=c2
 y4:y 4=ptr r 0
 y6:y 6=ptr D 0
 eJ:y 53=aH n
 eN:y 54=aH i
 gd:g.get D=some (cK m v)
 o:dJ g hl.next 32 v ps.length (ps.flatMap bP)
 w : ∀ x∈ps,D32 x
 l:ps.length=i
 R:fA g p r s1
 K:Kept hl g (fun c=>c=r∨c=D)
 e:br n s0=(ps++(br k s1).1,(br k s1).2)
def dmInv (hl:aj) (p r D n:Nat) (m:dp) (c2:Value) (s0:Rd) (k:Nat) (y:Nat→Value) (g:aj):Prop := ∃ i ps s1 v,DmI hl p r D n m c2 s0 k y g i ps s1 v
def dmFin (hl:aj) (p r D n:Nat) (m:dp) (c2:Value) (s0:Rd) (ex:Ex) (y:Nat→Value) (g:aj):Prop:=
 ex = .exit 0∧y 2=c2∧y 4=ptr r 0∧y 6=ptr D 0 ∧ ∃ v,g.get D=some (cK m v)∧dJ g hl.next 32 v (br n s0).1.length ((br n s0).1.flatMap bP)∧(∀ x∈(br n s0).1,D32 x)∧fA g p r (br n s0).2∧Kept hl g (fun c=>c=r∨c=D)
theorem dmRound {hl:aj} {p r D n:Nat} {m:dp} {c2:Value} {s0:Rd} (hn:n<256) (hm:m.obj.length=32) (hrD:r<D) (hD:D<hl.next) (hD0:hl.n0≤D) : ∀ k y g,dmInv hl p r D n m c2 s0 k y g→dd 71 (dmInv hl p r D n m c2 s0) (dmFin hl p r D n m c2 s0) k (dE CW y g):=by
 rintro k y g ⟨i,ps,s1,v,I⟩
 unfold dE
 cases k with
 |zero=>
  have hd:decide (i<n)=false:=decide_eq_false (by have:=I.ik;omega)
  simp -implicitDefEqProofs only [I.eN,I.eJ,dg,hd,af,ak]
  have he:br n s0=(ps,s1):=by rw [I.e];simp [br]
  exact dd.out 0 ⟨rfl,I.y2,I.y4,I.y6,v,I.gd,by rw [he];exact I.o,by rw [he];exact I.w,by rw [he];exact I.R,I.K⟩
 |succ k=>
  have hik:=I.ik
  have hd:decide (i<n)=true:=decide_eq_true (by omega)
  have hcell:isHole v=false∧v.oneCell'=true∧v.cells = #[v]:=ba (own_sl (ks:=dQ) I.o (cY (P:=D32) (fun a ha=>c9 ha) _ I.w))
  have l0:aN (ptr D 36) g=some (v,g):=aV I.gd (mat36 hm) hcell.1
  obtain ⟨g1,e1,R1,k1⟩:=q149 I.R
  have hd32:=pad_ok I.R.byte
  generalize hdg:eH (s1.take 32).1=d at *
  have G1:g1.get D=some (cK m v):=k1.dj I.gd (by omega)
  have l1:aN (ptr D 36) g1=some (v,g1):=aV G1 (mat36 hm) hcell.1
  have hv:Abs.fb v v=true:=(own_sl (ks:=dQ) I.o (cY (P:=D32) (fun a ha=>c9 ha) _ I.w)).fb
  have w1:=fM l1 hv
  have hbs:=bsl_one (n:=32) (z:=List.replicate 32 (.int .u8 0)) g1 rfl rfl (by decide) (by decide) (bX hd32) (cJ d).2
  have oa:Old g1 (g1.alloc (bP d)):=Kept.alloc _ _ _
  have ga:(g1.alloc (bP d)).get g1.next=some (bP d):=by rw [aj.aS,if_pos rfl]
  generalize g1.alloc (bP d)=g2 at *
  have S:=slice1 (s:=none) ga (c9 hd32)
  have kk:Kept g g2 (fun c=>c=r):=k1.trans (oa.mono (fun _ _ h=>h.elim))
  have O2:=I.o.bF kk (fun b hb e=>by have:=cG I.o hb;omega)
  have p2:g2.n0≤hl.next:=by rw [kk.n0,I.K.n0];exact hl.aK
  obtain ⟨v',g3,e3,O3,k3,_⟩:=eS (by_:=32) O2 p2 (Nat.le_trans I.K.next kk.next) (by decide) S.slice (S.first (by decide)) (cJ d).2 (cJ d).1 (by rw [bX hd32]) (by have:=I.l;omega) (by have:=I.l;omega)
  have R2:=R1.dY oa (fun _ _ h=>h)
  have R3:fA g3 p r _:=R2.dY k3 (fun b hb e=>by have:=cG O2 e.1;omega)
  have G3:g3.get D=some (cK m v):=k3.dj (Old.get oa G1) (fun e=>by have:=cG O2 e.1;omega)
  have p3:g3.n0≤D:=by rw [k3.n0,kk.n0,I.K.n0];exact hD0
  have O3':dJ g3 hl.next 32 v' (ps ++ [d]).length ((ps ++ [d]).flatMap bP):=by
   rw [List.flatMap_append,List.length_append]
   simpa using O3
  have hcell':isHole v'=false∧v'.oneCell'=true∧v'.cells = #[v']:=ba (own_sl (ks:=dQ) O3' (cY (P:=D32) (fun a ha=>c9 ha) _ (by
   intro x hx
   rcases List.mem_append.1 hx with hx|hx
   ·exact I.w x hx
   ·simp only [List.mem_cons,List.not_mem_nil,or_false] at hx
    subst hx;exact hd32)))
  obtain ⟨g4,e4,k4,G4,_,n4⟩:=stored (v:=v') (o:=36) G3 p3 (by rw [(fH hm ⟨hcell.1,hcell.2.1⟩).1];decide) hcell'.2.2 hcell'.2.1
  rw [mset36 hm] at G4
  have R4:=R3.dY k4 (fun b hb e=>by omega)
  have O4:=O3'.bF k4 (fun b hb e=>by have:=cG O3' hb;omega)
  simp -implicitDefEqProofs only [I.eN,I.eJ,dg,hd,I.y6,al,Nat.zero_add,l0,I.y4,e1,hbs,e3,e4,w1,Bool.and_true,ee (show i+1≤9223372036854775807 by omega),af,ak]
  refine dd.next k (by omega) ⟨i+1,ps ++ [d],_,v',by omega,I.y2,I.y4,I.y6,I.eJ,rfl,G4,O4,?_,by rw [List.length_append,I.l];rfl,R4,?_,?_⟩
  ·intro x hx
   rcases List.mem_append.1 hx with hx|hx
   ·exact I.w x hx
   ·simp only [List.mem_cons,List.not_mem_nil,or_false] at hx
    subst hx;exact hd32
  ·refine ((I.K.trans (kk.mono (fun _ _ h => .inl h))).cE k3 (fun d hd e => ?_)).trans (k4.mono (fun _ _ h => .inr h))
   have:=cG O2 e.1
   omega
  ·rw [I.e,←hdg]
   simp [br]
set_option maxRecDepth 100000 in
theorem q134 {h:aj} (hG:4≤h.n0) {a:Option Addr} {n c:Nat} {l:List Nat} (hl:ay a n h=some l) (hn:n≤21000) : ∃ v h',CW 134 [.slice a n c] h=some (.tuple #[.agg (cK (cM l).1 v).toArray,.int .i64 (cM l).2],h')∧Old h h'∧(cM l).1.Wf∧dh h' dQ v (cM l).1.pieces.length ((cM l).1.pieces.flatMap bP)∧(∀ b,slB v=some b→h.next≤b):=by
 obtain ⟨hlen,hby,_⟩:=aw hl
 obtain ⟨h1,z1,o1,g1,n1⟩:=fresh [(.int .i64 0),(.int .i64 0),(.int .i64 0),(.int .i64 0),(.int .u8 0),(.int .u8 0),(.int .u8 0),(.int .u8 0),(.int .u8 0),(.int .u8 0),(.int .u8 0),(.int .u8 0),(.int .u8 0),(.int .u8 0),(.int .u8 0),(.int .u8 0),(.int .u8 0),(.int .u8 0),(.int .u8 0),(.int .u8 0),(.int .u8 0),(.int .u8 0),(.int .u8 0),(.int .u8 0),(.int .u8 0),(.int .u8 0),(.int .u8 0),(.int .u8 0),(.int .u8 0),(.int .u8 0),(.int .u8 0),(.int .u8 0),(.int .u8 0),(.int .u8 0),(.int .u8 0),(.int .u8 0),(.slice none 0 0)] h
 have bz:bU [(.int .i64 0),(.int .i64 0),(.int .i64 0),(.int .i64 0),(.int .u8 0),(.int .u8 0),(.int .u8 0),(.int .u8 0),(.int .u8 0),(.int .u8 0),(.int .u8 0),(.int .u8 0),(.int .u8 0),(.int .u8 0),(.int .u8 0),(.int .u8 0),(.int .u8 0),(.int .u8 0),(.int .u8 0),(.int .u8 0),(.int .u8 0),(.int .u8 0),(.int .u8 0),(.int .u8 0),(.int .u8 0),(.int .u8 0),(.int .u8 0),(.int .u8 0),(.int .u8 0),(.int .u8 0),(.int .u8 0),(.int .u8 0),(.int .u8 0),(.int .u8 0),(.int .u8 0),(.int .u8 0),(.slice none 0 0)] []=some (.agg (cK dp.z (.slice none 0 0)).toArray):=rfl
 have cz:(cK dp.z (.slice none 0 0)).length=37∧Abs.bH (cK dp.z (.slice none 0 0))=true∧aQ (cK dp.z (.slice none 0 0))=true:=⟨rfl,rfl,rfl⟩
 obtain ⟨r,h2,e2,R2,o2,lr⟩:=r32 (h:=h1) (by rw [o1.n0];exact hG) (c:=c) (Old.bytes o1 hl) hn
 have R2:fA h2 h1.next r ⟨l,0⟩:=R2
 have rl2:=R2.lt
 obtain ⟨h3,e3,R3,k3,n3⟩:=q72 R2
 obtain ⟨h4,e4,R4,k4,n4⟩:=q73 R3
 obtain ⟨h5,e5,R5,k5,n5⟩:=q73 R4
 obtain ⟨h6,e6,R6,k6,n6⟩:=q73 R5
 obtain ⟨h7,e7,R7,k7,n7⟩:=q72 R6
 have b3:((⟨l,0⟩:Rd).num 2).1<65536:=Rd.cZ R2.byte 2
 have b4:=Rd.cZ R3.byte 1
 have b5:=Rd.cZ R4.byte 1
 have b6:=Rd.cZ R5.byte 1
 have b7:=Rd.cZ R6.byte 2
 have hdec:cM l=(let q:=pHead l;let s:=q.2.2.2.2.2;if s.e≠0 then (dp.z,s.e) else if q.1≠19713 then (dp.z,5) else if dW q.2.1 q.2.2.1 q.2.2.2.1=false∨(8192:Int)<q.2.2.2.2.1 then (dp.z,2) else if (br q.2.2.2.1 (s.take 32).2).2.fin≠0 then (dp.z,(br q.2.2.2.1 (s.take 32).2).2.fin) else (⟨q.2.1,q.2.2.1,q.2.2.2.1,q.2.2.2.2.1,eH (s.take 32).1,(br q.2.2.2.1 (s.take 32).2).1⟩,0)):=rfl
 have hq:pHead l=(((⟨l,0⟩:Rd).num 2).1,((((⟨l,0⟩:Rd).num 2).2).num 1).1,((((((⟨l,0⟩:Rd).num 2).2).num 1).2).num 1).1,((((((((⟨l,0⟩:Rd).num 2).2).num 1).2).num 1).2).num 1).1,((((((((((⟨l,0⟩:Rd).num 2).2).num 1).2).num 1).2).num 1).2).num 2).1,((((((((((⟨l,0⟩:Rd).num 2).2).num 1).2).num 1).2).num 1).2).num 2).2):=rfl
 rw [hdec,hq]
 simp only
 generalize ((⟨l,0⟩:Rd).num 2).1=v0 at *
 generalize ((⟨l,0⟩:Rd).num 2).2=s3 at *
 generalize (s3.num 1).1=v1 at *
 generalize (s3.num 1).2=s4 at *
 generalize (s4.num 1).1=v2 at *
 generalize (s4.num 1).2=s5 at *
 generalize (s5.num 1).1=v3 at *
 generalize (s5.num 1).2=s6 at *
 generalize (s6.num 2).1=v4 at *
 generalize (s6.num 2).2=s7 at *
 clear hdec hq
 have w1:IntKind.wrap .i64 (v1:Int)=(v1:Int):=wrap_i64 (by omega) (by omega)
 have w2:IntKind.wrap .i64 (v2:Int)=(v2:Int):=wrap_i64 (by omega) (by omega)
 have w3:IntKind.wrap .i64 (v3:Int)=(v3:Int):=wrap_i64 (by omega) (by omega)
 have w4:IntKind.wrap .i64 (v4:Int)=(v4:Int):=wrap_i64 (by omega) (by omega)
 have i1:I64 (v1:Int):=⟨by omega,by omega⟩
 have i2:I64 (v2:Int):=⟨by omega,by omega⟩
 have i3:I64 (v3:Int):=⟨by omega,by omega⟩
 have i4:I64 (v4:Int):=⟨by omega,by omega⟩
 have K27:Kept h2 h7 (fun c=>c=r):=(((k3.trans k4).trans k5).trans k6).trans k7
 have O7:Old h1 h7:=o2.cE K27 (fun d hd e=>by omega)
 have bm:bU [(.int .i64 0),(.int .i64 0),(.int .i64 0),(.int .i64 0),(.int .u8 0),(.int .u8 0),(.int .u8 0),(.int .u8 0),(.int .u8 0),(.int .u8 0),(.int .u8 0),(.int .u8 0),(.int .u8 0),(.int .u8 0),(.int .u8 0),(.int .u8 0),(.int .u8 0),(.int .u8 0),(.int .u8 0),(.int .u8 0),(.int .u8 0),(.int .u8 0),(.int .u8 0),(.int .u8 0),(.int .u8 0),(.int .u8 0),(.int .u8 0),(.int .u8 0),(.int .u8 0),(.int .u8 0),(.int .u8 0),(.int .u8 0),(.int .u8 0),(.int .u8 0),(.int .u8 0),(.int .u8 0),(.slice none 0 0)] [(0,1,.int .i64 (v1:Int)),(1,1,.int .i64 (v2:Int)),(2,1,.int .i64 (v3:Int)),(3,1,.int .i64 (v4:Int))]=some (.agg (cK ⟨v1,v2,v3,v4,z32,[]⟩ (.slice none 0 0)).toArray):=rfl
 obtain ⟨h8,z8,o8,g8,n8⟩:=fresh [(.int .i64 0),(.int .i64 0),(.int .i64 0),(.int .i64 0),(.int .u8 0),(.int .u8 0),(.int .u8 0),(.int .u8 0),(.int .u8 0),(.int .u8 0),(.int .u8 0),(.int .u8 0),(.int .u8 0),(.int .u8 0),(.int .u8 0),(.int .u8 0),(.int .u8 0),(.int .u8 0),(.int .u8 0),(.int .u8 0),(.int .u8 0),(.int .u8 0),(.int .u8 0),(.int .u8 0),(.int .u8 0),(.int .u8 0),(.int .u8 0),(.int .u8 0),(.int .u8 0),(.int .u8 0),(.int .u8 0),(.int .u8 0),(.int .u8 0),(.int .u8 0),(.int .u8 0),(.int .u8 0),(.slice none 0 0)] h7
 have p8:h8.n0≤h7.next:=by rw [o8.n0];exact h7.aK
 obtain ⟨h9,e9,k9,g9,p9,n9⟩:=bJ (n:=37) (k':=cK ⟨v1,v2,v3,v4,z32,[]⟩ (.slice none 0 0)) g8 p8 rfl rfl rfl
 have o79:Old h7 h9:=Old.eF o8 k9 (Nat.le_refl _)
 have O9:=O7.trans o79
 have R9:=R7.dY o79 (fun _ _ h=>h)
 have e10:=q75 R9
 have g1':=Old.get O9 g1
 have rl9:=R9.lt
 have m7:=O7.next
 have fin0 : ∀ (er:Int) {g:aj},Old h g→g.get h.next=some [(.int .i64 0),(.int .i64 0),(.int .i64 0),(.int .i64 0),(.int .u8 0),(.int .u8 0),(.int .u8 0),(.int .u8 0),(.int .u8 0),(.int .u8 0),(.int .u8 0),(.int .u8 0),(.int .u8 0),(.int .u8 0),(.int .u8 0),(.int .u8 0),(.int .u8 0),(.int .u8 0),(.int .u8 0),(.int .u8 0),(.int .u8 0),(.int .u8 0),(.int .u8 0),(.int .u8 0),(.int .u8 0),(.int .u8 0),(.int .u8 0),(.int .u8 0),(.int .u8 0),(.int .u8 0),(.int .u8 0),(.int .u8 0),(.int .u8 0),(.int .u8 0),(.int .u8 0),(.int .u8 0),(.slice none 0 0)] → ∃ h',bw 37 (ptr h.next 0) (.agg (cK dp.z (.slice none 0 0)).toArray) g=some (undef,h')∧bD 37 (ptr h.next 0) h'=some (.agg (cK dp.z (.slice none 0 0)).toArray,h')∧Old h h':=fun er g o gg=>by
  obtain ⟨h',a1,a2,a3,_⟩:=man_end o (Nat.le_refl _) gg rfl cz
  exact ⟨h',a1,a2,a3⟩
 by_cases c1:s7.e≠0
 ·rw [if_pos c1]
  have q1:bin Tryz.prog .neq 35 (.int .i64 s7.e) (.int .i64 0)=some (.bool true):=by rw [ax];simpa using c1
  obtain ⟨h',f1,f2,f3⟩:=fin0 s7.e (o1.trans O9) g1'
  refine ⟨.slice none 0 0,h',aF is134 hG rfl ((t134_eq _ _ _).trans ?_),f3,dp.fZ,.nil _ _,fun b hb=>by cases hb⟩
  unfold t134
  simp -implicitDefEqProofs only [z1,e2,e3,e4,bq,w1,e5,w2,e6,w3,e7,w4,bm,z8,e9,e10,af,ak,al,Nat.zero_add,q1,bz,f1]
  exact bp results134 agg32 siz32' (show 2<71 by decide) (show 3<71 by decide) _ f2
 rw [if_neg c1]
 have q1:bin Tryz.prog .neq 35 (.int .i64 s7.e) (.int .i64 0)=some (.bool false):=by rw [ax];simpa using c1
 by_cases c2:v0≠19713
 ·rw [if_pos c2]
  have q2:bin Tryz.prog .neq 65 (.int .u16 (v0:Int)) (.int .u16 19713)=some (.bool true):=by
   rw [ax]
   have:(v0:Int)≠19713:=by omega
   simpa using this
  obtain ⟨h',f1,f2,f3⟩:=fin0 5 (o1.trans O9) g1'
  refine ⟨.slice none 0 0,h',aF is134 hG rfl ((t134_eq _ _ _).trans ?_),f3,dp.fZ,.nil _ _,fun b hb=>by cases hb⟩
  unfold t134
  simp -implicitDefEqProofs only [z1,e2,e3,e4,bq,w1,e5,w2,e6,w3,e7,w4,bm,z8,e9,e10,af,ak,al,Nat.zero_add,q1,q2,bz,f1]
  exact bp results134 agg32 siz32' (show 2<71 by decide) (show 3<71 by decide) _ f2
 rw [if_neg c2]
 have q2:bin Tryz.prog .neq 65 (.int .u16 (v0:Int)) (.int .u16 19713)=some (.bool false):=by
  rw [ax]
  have:(v0:Int)=19713:=by omega
  simpa using this
 have l0:aN (ptr h7.next 0) h9=some (.int .i64 (v1:Int),h9):=aV g9 rfl
 have l1:aN (ptr h7.next 1) h9=some (.int .i64 (v2:Int),h9):=aV g9 rfl
 have l2:aN (ptr h7.next 2) h9=some (.int .i64 (v3:Int),h9):=aV g9 rfl
 have l3:aN (ptr h7.next 3) h9=some (.int .i64 (v4:Int),h9):=aV g9 rfl
 have e148:=r148 (h:=h9) R9.g4 (v1:Int) (v2:Int) (v3:Int)
 by_cases c3:dW v1 v2 v3=false∨(8192:Int)<v4
 ·rw [if_pos c3]
  obtain ⟨h',f1,f2,f3⟩:=fin0 2 (o1.trans O9) g1'
  refine ⟨.slice none 0 0,h',aF is134 hG rfl ((t134_eq _ _ _).trans ?_),f3,dp.fZ,.nil _ _,fun b hb=>by cases hb⟩
  unfold t134
  cases c4:dW (v1:Int) v2 v3 with
  |false=>
   rw [c4] at e148
   simp -implicitDefEqProofs only [z1,e2,e3,e4,bq,w1,e5,w2,e6,w3,e7,w4,bm,z8,e9,e10,af,ak,al,Nat.zero_add,q1,q2,l0,l1,l2,e148,av,Bool.not_false,ao,fs,sf,beq_self_eq_true,ai,ah,Bool.false_eq_true,if_false,if_true,bz,f1]
   exact bp results134 agg32 siz32' (show 2<71 by decide) (show 3<71 by decide) _ f2
  |true=>
   rw [c4] at e148
   have q4:bin Tryz.prog .gtr 3 (.int .i64 (v4:Int)) (.int .i64 8192)=some (.bool true):=by
    rw [aB]
    rcases c3 with c3|c3
    ·rw [c4] at c3;cases c3
    ·rw [decide_eq_true (by omega)]
   simp -implicitDefEqProofs only [z1,e2,e3,e4,bq,w1,e5,w2,e6,w3,e7,w4,bm,z8,e9,e10,af,ak,al,Nat.zero_add,q1,q2,l0,l1,l2,l3,e148,q4,av,Bool.not_true,ao,fs,sf,beq_self_eq_true,ai,ah,Bool.false_eq_true,if_false,if_true,bz,f1]
   exact bp results134 agg32 siz32' (show 2<71 by decide) (show 3<71 by decide) _ f2
 rw [if_neg c3]
 have c4:dW (v1:Int) v2 v3=true:=by
  cases hh:dW (v1:Int) v2 v3 with
  |true=>rfl
  |false=>exact absurd (.inl hh) c3
 have c5:v4≤8192:=by
  have : ¬(8192:Int)<v4:=fun hh=>c3 (.inr hh)
  omega
 have q4:bin Tryz.prog .gtr 3 (.int .i64 (v4:Int)) (.int .i64 8192)=some (.bool false):=by rw [aB,decide_eq_false (by omega)]
 rw [c4] at e148
 obtain ⟨h10,e11,R10,k10⟩:=q149 R9
 have hd:=pad_ok R9.byte
 generalize hdd:eH (s7.take 32).1=d at *
 have g10:=k10.dj g9 (by omega)
 have p10:h10.n0≤h7.next:=by rw [k10.n0];exact p9
 obtain ⟨h11,e12,k11,g11,p11,n11⟩:=stored_mid (o:=4) (n:=32) (B':=bP d) g10 p10 (show 4+32≤37 by omega) (bX hd) (cJ d).2
 rw [mset4 rfl hd.1] at g11
 have g11:h11.get h7.next=some (cK ⟨v1,v2,v3,v4,d,[]⟩ (.slice none 0 0)):=g11
 have R11:=R10.dY k11 (fun b hb e=>by omega)
 have O11:Old h1 h11:=(O9.cE k10 (fun d hd e=>by omega)).cE k11 (fun d hd e=>by omega)
 have l2':aN (ptr h7.next 2) h11=some (.int .i64 (v3:Int),h11):=aV g11 rfl
 have hv3:v3<256:=b6
 have fin1 : ∀ y,y 2=ptr h.next 0→y 4=ptr r 0→y 6=ptr h7.next 0→y 53=aH v3→y 54=aH 0 → ∃ v h',dX (iter (aM Tryz.prog CW (partOf Tryz.f134 [1,1,1,1,1,1,1,1,0,1,0,0])) rounds (aJ 71 y) h11) (ar Tryz.prog Tryz.f134.results.toList) (b134_17 CW)=some (.tuple #[.agg (cK (if (br v3 (s7.take 32).2).2.fin≠0 then (dp.z,(br v3 (s7.take 32).2).2.fin) else ((⟨v1,v2,v3,v4,d,(br v3 (s7.take 32).2).1⟩:dp),0)).1 v).toArray,.int .i64 (if (br v3 (s7.take 32).2).2.fin≠0 then (dp.z,(br v3 (s7.take 32).2).2.fin) else ((⟨v1,v2,v3,v4,d,(br v3 (s7.take 32).2).1⟩:dp),0)).2],h')∧Old h h'∧(if (br v3 (s7.take 32).2).2.fin≠0 then (dp.z,(br v3 (s7.take 32).2).2.fin) else ((⟨v1,v2,v3,v4,d,(br v3 (s7.take 32).2).1⟩:dp),0)).1.Wf∧dh h' dQ v (if (br v3 (s7.take 32).2).2.fin≠0 then (dp.z,(br v3 (s7.take 32).2).2.fin) else ((⟨v1,v2,v3,v4,d,(br v3 (s7.take 32).2).1⟩:dp),0)).1.pieces.length ((if (br v3 (s7.take 32).2).2.fin≠0 then (dp.z,(br v3 (s7.take 32).2).2.fin) else ((⟨v1,v2,v3,v4,d,(br v3 (s7.take 32).2).1⟩:dp),0)).1.pieces.flatMap bP)∧(∀ b,slB v=some b→h.next≤b):=fun y y2 y4 y6 eJ eN=>by
  refine bY (Q:=fun o:Out => ∃ v h',o=some (Value.tuple #[.agg (cK (if (br v3 (s7.take 32).2).2.fin≠0 then (dp.z,(br v3 (s7.take 32).2).2.fin) else ((⟨v1,v2,v3,v4,d,(br v3 (s7.take 32).2).1⟩:dp),0)).1 v).toArray,.int .i64 (if (br v3 (s7.take 32).2).2.fin≠0 then (dp.z,(br v3 (s7.take 32).2).2.fin) else ((⟨v1,v2,v3,v4,d,(br v3 (s7.take 32).2).1⟩:dp),0)).2],h')∧Old h h'∧(if (br v3 (s7.take 32).2).2.fin≠0 then (dp.z,(br v3 (s7.take 32).2).2.fin) else ((⟨v1,v2,v3,v4,d,(br v3 (s7.take 32).2).1⟩:dp),0)).1.Wf∧dh h' dQ v (if (br v3 (s7.take 32).2).2.fin≠0 then (dp.z,(br v3 (s7.take 32).2).2.fin) else ((⟨v1,v2,v3,v4,d,(br v3 (s7.take 32).2).1⟩:dp),0)).1.pieces.length ((if (br v3 (s7.take 32).2).2.fin≠0 then (dp.z,(br v3 (s7.take 32).2).2.fin) else ((⟨v1,v2,v3,v4,d,(br v3 (s7.take 32).2).1⟩:dp),0)).1.pieces.flatMap bP)∧(∀ b,slB v=some b→h.next≤b))
   (bZ (t134l134_11111111010_eq CW) (dmRound (hl:=h11) (p:=h1.next) (r:=r) (D:=h7.next) (n:=v3) (m:=⟨v1,v2,v3,v4,d,[]⟩) (c2:=ptr h.next 0) (s0:=(s7.take 32).2) hv3 hd.1 (by omega) (h11.bc g11) p11) v3 (by have:rounds=18446744073709551616:=rfl;omega)
   ⟨0,[],(s7.take 32).2,.slice none 0 0,Nat.zero_add _,y2,y4,y6,eJ,eN,g11,.nil _ _ _,(fun x hx=>by cases hx),rfl,R11,Kept.refl _ _,rfl⟩) ?_
  rintro ex z g ⟨rfl,z2,z4,z6,v,G,O,hw,R',K⟩
  rw [bE,b134_exit,t134k134_15_eq]
  unfold t134k134_15
  have e36:=q36 R'
  have O12:Old h1 g:=O11.cE K (fun d hd e=>by omega)
  have gg:=Old.get O12 g1
  by_cases c6:(br v3 (s7.take 32).2).2.fin≠0
  ·rw [if_pos c6]
   have q6:bin Tryz.prog .neq 35 (.int .i64 (br v3 (s7.take 32).2).2.fin) (.int .i64 0)=some (.bool true):=by rw [ax];simpa using c6
   obtain ⟨h',f1,f2,f3⟩:=fin0 2 (o1.trans O12) gg
   refine ⟨.slice none 0 0,h',?_,f3,dp.fZ,.nil _ _,fun b hb=>by cases hb⟩
   simp -implicitDefEqProofs only [z4,e36,q6,z2,bz,f1,af,ak]
   exact bp results134 agg32 siz32' (show 2<71 by decide) (show 3<71 by decide) _ (by
    have:up z [(3,.int .i64 (br v3 (s7.take 32).2).2.fin),(8,.int .i64 (br v3 (s7.take 32).2).2.fin),(64,ptr r 0),(65,.int .i64 (br v3 (s7.take 32).2).2.fin),(66,.int .i64 (br v3 (s7.take 32).2).2.fin),(67,.bool true),(68,.agg (cK dp.z (.slice none 0 0)).toArray),(69,.int .i64 (br v3 (s7.take 32).2).2.fin)] 2=ptr h.next 0:=z2
    rw [this];exact f2)
  ·rw [if_neg c6]
   have q6:bin Tryz.prog .neq 35 (.int .i64 (br v3 (s7.take 32).2).2.fin) (.int .i64 0)=some (.bool false):=by rw [ax];simpa using c6
   have S:=own_sl (ks:=dQ) O (cY (P:=D32) (fun a ha=>c9 ha) _ hw)
   have hc:=ba S
   have hmc:=fH (m:=⟨v1,v2,v3,v4,d,[]⟩) (v:=v) hd.1 ⟨hc.1,hc.2.1⟩
   have lz:=cA G hmc.1 hmc.2.1
   obtain ⟨h',f1,f2,f3,k'⟩:=man_end (o1.trans O12) (Nat.le_refl _) gg rfl hmc
   refine ⟨v,h',?_,f3,⟨i1,i2,i3,i4,hd,hw⟩,S.bF k' (fun b hb e => ?_),fun b hb => ?_⟩
   ·simp -implicitDefEqProofs only [z4,e36,q6,z6,z2,lz,f1,af,ak]
    exact bp results134 agg32 siz32' (show 2<71 by decide) (show 3<71 by decide) _ (by
     have:up z [(3,.int .i64 0),(8,.int .i64 (br v3 (s7.take 32).2).2.fin),(64,ptr r 0),(65,.int .i64 (br v3 (s7.take 32).2).2.fin),(66,.int .i64 (br v3 (s7.take 32).2).2.fin),(67,.bool false),(70,.agg (cK ⟨v1,v2,v3,v4,d,[]⟩ v).toArray)] 2=ptr h.next 0:=z2
     rw [this];exact f2)
   ·have:=own_blk O hb
    have:=O11.next
    omega
   ·have:=own_blk O hb
    have:=O11.next
    omega
 have key : ∃ v h',t134 CW (.slice a n c) h=some (.tuple #[.agg (cK (if (br v3 (s7.take 32).2).2.fin≠0 then (dp.z,(br v3 (s7.take 32).2).2.fin) else ((⟨v1,v2,v3,v4,d,(br v3 (s7.take 32).2).1⟩:dp),0)).1 v).toArray,.int .i64 (if (br v3 (s7.take 32).2).2.fin≠0 then (dp.z,(br v3 (s7.take 32).2).2.fin) else ((⟨v1,v2,v3,v4,d,(br v3 (s7.take 32).2).1⟩:dp),0)).2],h')∧Old h h'∧(if (br v3 (s7.take 32).2).2.fin≠0 then (dp.z,(br v3 (s7.take 32).2).2.fin) else ((⟨v1,v2,v3,v4,d,(br v3 (s7.take 32).2).1⟩:dp),0)).1.Wf∧dh h' dQ v (if (br v3 (s7.take 32).2).2.fin≠0 then (dp.z,(br v3 (s7.take 32).2).2.fin) else ((⟨v1,v2,v3,v4,d,(br v3 (s7.take 32).2).1⟩:dp),0)).1.pieces.length ((if (br v3 (s7.take 32).2).2.fin≠0 then (dp.z,(br v3 (s7.take 32).2).2.fin) else ((⟨v1,v2,v3,v4,d,(br v3 (s7.take 32).2).1⟩:dp),0)).1.pieces.flatMap bP)∧(∀ b,slB v=some b→h.next≤b):=by
  unfold t134
  simp -implicitDefEqProofs only [z1,e2,e3,e4,bq,w1,e5,w2,e6,w3,e7,w4,bm,z8,e9,e10,af,ak,al,Nat.zero_add,q1,q2,l0,l1,l2,l3,e148,q4,av,Bool.not_true,ao,fs,sf,beq_self_eq_true,ai,ah,Bool.false_eq_true,if_false,if_true,e11,e12,l2']
  exact fin1 _ rfl rfl rfl rfl rfl
 obtain ⟨v,h',e,rest⟩:=key
 exact ⟨v,h',aF is134 hG rfl ((t134_eq _ _ _).trans e),rest⟩
end Go.Proofs.YtjghlcdidopcpaaGreatDoor

namespace Go.Proofs.YtjghlcdidopcpaaGreatDoor
open Go Go.Abs
attribute [local congr] aU
theorem sl_bytes {h:aj} {a:Option Addr} {c:Nat} {l:List Nat} (e:ay a l.length h=some l):dh h [.u8] (.slice a l.length c) l.length (bP l):=by
 obtain ⟨_,hb,h3⟩:=aw e
 refine ⟨a,c,rfl,fun ha => ?_,bytes_typed hb,fun hn => ?_⟩
 ·by_cases h0:l.length=0
  ·exact h0
  ·obtain ⟨_,_,_,_,q,_⟩:=h3 (by omega)
   rw [ha] at q;cases q
 ·obtain ⟨b,off,s,k,rfl,g,h4,h5⟩:=h3 hn
  refine ⟨b,off,s,k,rfl,g,by rw [show ([.u8]:List Kd).length=1 from rfl,Nat.mul_one];exact h4,?_⟩
  rw [show ([.u8]:List Kd).length=1 from rfl,Nat.mul_one]
  refine List.ext_getElem? fun j => ?_
  rw [List.getElem?_take]
  by_cases hj:j<l.length
  ·rw [if_pos hj,List.getElem?_drop,h5 j hj,List.getElem?_map,List.getD_eq_getElem?_getD,List.getElem?_eq_getElem hj]
   rfl
  ·rw [if_neg hj,List.getElem?_eq_none (by rw [List.length_map];omega)]
theorem slB_blk {a:Option Addr} {n c:Nat} {q:Nat} (f : ∀ y,a=some y→q≤y.block) : ∀ b,slB (.slice a n c)=some b→q≤b:=fun b hb=>by
 cases a with
 |none=>cases n<;>cases hb
 |some y=>
  cases n with
  |zero=>cases hb
  |succ n=>cases hb;exact f y rfl
section
variable {s:cR} {B:Nat→Prop} (o:s.off B) {v:Value} (hv : ∀ b,slB v=some b → ¬B b)
include o hv
theorem off_a:({ s with a:=v }:cR).off B:=by
 rintro w (rfl|rfl|rfl|rfl|rfl|rfl) b hb
 ·exact hv b hb
 ·exact o _ (.inr (.inl rfl)) b hb
 ·exact o _ (.inr (.inr (.inl rfl))) b hb
 ·exact o _ (.inr (.inr (.inr (.inl rfl)))) b hb
 ·exact o _ (.inr (.inr (.inr (.inr (.inl rfl))))) b hb
 ·exact o _ (.inr (.inr (.inr (.inr (.inr (rfl)))))) b hb
theorem off_b:({ s with b:=v }:cR).off B:=by
 rintro w (rfl|rfl|rfl|rfl|rfl|rfl) b hb
 ·exact o _ (.inl rfl) b hb
 ·exact hv b hb
 ·exact o _ (.inr (.inr (.inl rfl))) b hb
 ·exact o _ (.inr (.inr (.inr (.inl rfl)))) b hb
 ·exact o _ (.inr (.inr (.inr (.inr (.inl rfl))))) b hb
 ·exact o _ (.inr (.inr (.inr (.inr (.inr (rfl)))))) b hb
theorem off_c:({ s with c:=v }:cR).off B:=by
 rintro w (rfl|rfl|rfl|rfl|rfl|rfl) b hb
 ·exact o _ (.inl rfl) b hb
 ·exact o _ (.inr (.inl rfl)) b hb
 ·exact hv b hb
 ·exact o _ (.inr (.inr (.inr (.inl rfl)))) b hb
 ·exact o _ (.inr (.inr (.inr (.inr (.inl rfl))))) b hb
 ·exact o _ (.inr (.inr (.inr (.inr (.inr (rfl)))))) b hb
theorem off_d:({ s with d:=v }:cR).off B:=by
 rintro w (rfl|rfl|rfl|rfl|rfl|rfl) b hb
 ·exact o _ (.inl rfl) b hb
 ·exact o _ (.inr (.inl rfl)) b hb
 ·exact o _ (.inr (.inr (.inl rfl))) b hb
 ·exact hv b hb
 ·exact o _ (.inr (.inr (.inr (.inr (.inl rfl))))) b hb
 ·exact o _ (.inr (.inr (.inr (.inr (.inr (rfl)))))) b hb
theorem off_e:({ s with e:=v }:cR).off B:=by
 rintro w (rfl|rfl|rfl|rfl|rfl|rfl) b hb
 ·exact o _ (.inl rfl) b hb
 ·exact o _ (.inr (.inl rfl)) b hb
 ·exact o _ (.inr (.inr (.inl rfl))) b hb
 ·exact o _ (.inr (.inr (.inr (.inl rfl)))) b hb
 ·exact hv b hb
 ·exact o _ (.inr (.inr (.inr (.inr (.inr (rfl)))))) b hb
theorem off_f:({ s with f:=v }:cR).off B:=by
 rintro w (rfl|rfl|rfl|rfl|rfl|rfl) b hb
 ·exact o _ (.inl rfl) b hb
 ·exact o _ (.inr (.inl rfl)) b hb
 ·exact o _ (.inr (.inr (.inl rfl))) b hb
 ·exact o _ (.inr (.inr (.inr (.inl rfl)))) b hb
 ·exact o _ (.inr (.inr (.inr (.inr (.inl rfl))))) b hb
 ·exact hv b hb
end
theorem cT (B:Nat→Prop):aZ.off B:=by
 rintro w (rfl|rfl|rfl|rfl|rfl|rfl) b hb<;>cases hb
structure MsR (h:aj) (p r M:Nat) (s:Rd) (m:aO) (sl:cR):Prop where
 R:fA h p r s
 g:h.get M=some (m.d.cells sl)
 x:Has h sl m
 off:sl.off (fun b=>b≤r)
 Mp:M<p
 n0:h.n0≤M
theorem MsR.rd {h h':aj} {p r M:Nat} {s s':Rd} {m:aO} {sl:cR} (X:MsR h p r M s m sl) (R':fA h' p r s') (k:Kept h h' (fun c=>c=r)):MsR h' p r M s' m sl:=by
 have h1:=X.R.pr
 have h2:=X.Mp
 exact ⟨R',k.dj X.g (by omega),X.x.bF k (fun v hv b hb e=>X.off v hv b hb (by omega)),X.off,X.Mp,k.n0▸X.n0⟩
theorem MsR.bA {h h':aj} {p r M:Nat} {s:Rd} {m:aO} {sl:cR} (X:MsR h p r M s m sl) (o:Old h h'):MsR h' p r M s m sl:=
 ⟨X.R.dY o (fun _ _ h=>h),Old.get o X.g,X.x.bA o,X.off,X.Mp,by rw [o.n0];exact X.n0⟩
theorem MsR.put {h:aj} {p r M o:Nat} {s:Rd} {m m':aO} {sl sl':cR} {v:Value} (X:MsR h p r M s m sl) (ho:o<116) (hc:v.cells = #[v]) (hv:v.oneCell'=true) (e:(m.d.cells sl).set o v=m'.d.cells sl') (x':Has h sl' m') (off':sl'.off (fun b=>b≤r)) :
  ∃ h',bw 1 (ptr M o) v h=some (undef,h')∧MsR h' p r M s m' sl'∧Kept h h' (fun c=>c=M)∧h'.next=h.next:=by
 have h1:=X.R.pr
 have h2:=X.Mp
 obtain ⟨h',e1,k,g,n0,nx⟩:=stored X.g X.n0 (by rw [fS (aO.ok X.x.wf)];exact ho) hc hv
 rw [e] at g
 exact ⟨h',e1,⟨X.R.dY k (fun b hb e=>by omega),g,x'.bF k (fun v hv b hb e=>off' v hv b hb (by omega)),off',X.Mp,n0⟩,k,nx⟩
theorem MsR.putN {h:aj} {p r M o n:Nat} {s:Rd} {m m':aO} {sl sl':cR} {k:dB} (X:MsR h p r M s m sl) (ho:o+n≤116) (hc:k.length=n) (hv:aQ k=true) (e:bI (m.d.cells sl) o k=m'.d.cells sl') (x':Has h sl' m') (off':sl'.off (fun b=>b≤r)) :
  ∃ h',bw n (ptr M o) (.agg k.toArray) h=some (undef,h')∧MsR h' p r M s m' sl'∧Kept h h' (fun c=>c=M)∧h'.next=h.next:=by
 have h1:=X.R.pr
 have h2:=X.Mp
 obtain ⟨h',e1,k,g,n0,nx⟩:=stored_mid X.g X.n0 (by rw [fS (aO.ok X.x.wf)];exact ho) hc hv
 rw [e] at g
 exact ⟨h',e1,⟨X.R.dY k (fun b hb e=>by omega),g,x'.bF k (fun v hv b hb e=>off' v hv b hb (by omega)),off',X.Mp,n0⟩,k,nx⟩
section
variable {m:aO} {s:cR} (w:m.Wf)
include w
theorem c10 {o:List Nat} (ho:o.length=32):bI (m.d.cells s) 10 (bP o)=({ m with root:=o }:aO).d.cells s:=splice_app (A:=m.d.front s) (B:=bP m.root) (n:=32) rfl (bX w.root) (by simp [ho])
theorem c44 {o:List Nat} (ho:o.length=32):bI (m.d.cells s) 44 (bP o)=({ m with obj:=o }:aO).d.cells s:=by
 have e1:m.d.cells s=(m.d.front s++(bP m.root ++ [s.d,.bool m.want]))++(bP m.obj++(m.d.eM s ++ [.int .i64 m.cN,s.f,.int .i64 m.code])):=by
  unfold bV.cells;simp only [List.append_assoc];rfl
 rw [e1,splice_app (A:=m.d.front s++(bP m.root ++ [s.d,.bool m.want])) (B:=bP m.obj) (o:=44) (n:=32) (by rw [List.length_append,List.length_append,bX w.root];rfl) (bX w.obj) (by simp [ho])]
 unfold bV.cells;simp only [List.append_assoc];rfl
theorem c76 {x:dp} {v:Value} (hx:x.obj.length=32):bI (m.d.cells s) 76 (cK x v)=({ m with gk:=x.gk,gn:=x.gn,gt:=x.gt,gs:=x.gs,dk:=x.obj,pieces:=x.pieces }:aO).d.cells { s with e:=v }:=by
 have e1:m.d.cells s=(m.d.front s++(bP m.root++([s.d,.bool m.want]++bP m.obj)))++(m.d.eM s ++ [.int .i64 m.cN,s.f,.int .i64 m.code]):=by
  unfold bV.cells;simp only [List.append_assoc];rfl
 rw [e1,splice_app (A:=m.d.front s++(bP m.root++([s.d,.bool m.want]++bP m.obj))) (B:=m.d.eM s) (o:=76) (n:=37) (by rw [List.length_append,List.length_append,List.length_append,bX w.root,bX w.obj];rfl) (man_len (aO.ok w)) (by unfold cK;simp [hx])]
 unfold bV.cells;simp only [List.append_assoc];rfl
theorem c43 (b:Bool):(m.d.cells s).set 43 (.bool b)=({ m with want:=b }:aO).d.cells s:=cF (A:=m.d.front s) 33 rfl (cF 1 (by show (bP m.root).length+1=33;rw [bX w.root]) rfl)
theorem c113 (v:Int):(m.d.cells s).set 113 (.int .i64 v)=({ m with cN:=v }:aO).d.cells s:=
 cF (A:=m.d.front s) 103 rfl (cF 71 (by show (bP m.root).length+71=103;rw [bX w.root]) (cF 69 rfl (cF 37 (by show (bP m.obj).length+37=69;rw [bX w.obj]) (cF 0 (by rw [man_len (aO.ok w)]) rfl))))
theorem c115 (v:Int):(m.d.cells s).set 115 (.int .i64 v)=({ m with code:=v }:aO).d.cells s:=
 cF (A:=m.d.front s) 105 rfl (cF 73 (by show (bP m.root).length+73=105;rw [bX w.root]) (cF 71 rfl (cF 39 (by show (bP m.obj).length+39=71;rw [bX w.obj]) (cF 2 (by rw [man_len (aO.ok w)]) rfl))))
end
def fm:Nat→Rd→Option (List bK×Rd)
 | 0,s=>some ([],s)
 |n+1,s=>if (dA (s.take 53).1).2=0 then (fm n (s.take 53).2).map fun q=>((dA (s.take 53).1).1::q.1,q.2) else none
def pPing (s:Rd) (m:aO):aO×Rd:=({ m with seq:=(s.num 8).1,origin:=((s.num 8).2.num 1).1,table:=(dR ((s.num 8).2.num 1).2).1 },(dR ((s.num 8).2.num 1).2).2)
def pReq (s:Rd) (m:aO):aO×Rd:=({ m with seq:=(s.num 8).1,target:=((s.num 8).2.num 1).1,table:=(dR ((s.num 8).2.num 1).2).1 },(dR ((s.num 8).2.num 1).2).2)
def pSum (s:Rd) (m:aO):aO×Rd:=({ m with low:=s.text.1,high:=s.text.2.text.1,count:=(s.text.2.text.2.num 4).1,root:=eH ((s.text.2.text.2.num 4).2.take 32).1 },((s.text.2.text.2.num 4).2.take 32).2)
def pObj (s:Rd) (m:aO):aO×Rd:=({ m with obj:=eH (s.take 32).1 },(s.take 32).2)
def pStored (s:Rd) (m:aO):aO×Rd:=({ m with obj:=eH (s.take 32).1,code:=((s.take 32).2.num 2).1 },((s.take 32).2.num 2).2)
def pItems (s:Rd) (m:aO):Option (aO×Rd):=
 match fm ((s.text.2.text.2.num 1).2.num 2).1 ((s.text.2.text.2.num 1).2.num 2).2 with
 |some q=>if (s.text.2.text.2.num 1).1≤1 then some ({ m with low:=s.text.1,high:=s.text.2.text.1,want:=(s.text.2.text.2.num 1).1==1,cp:=q.1 },q.2) else none
 |none=>none
def pPiece (s:Rd) (m:aO):Option (aO×Rd):=
 if (cM (s.take 32).2.text.1).2=0 then
  some ({ m with obj:=eH (s.take 32).1,gk:=(cM (s.take 32).2.text.1).1.gk,gn:=(cM (s.take 32).2.text.1).1.gn,gt:=(cM (s.take 32).2.text.1).1.gt,gs:=(cM (s.take 32).2.text.1).1.gs,dk:=(cM (s.take 32).2.text.1).1.obj,pieces:=(cM (s.take 32).2.text.1).1.pieces,cN:=((s.take 32).2.text.2.num 2).1,data:=((s.take 32).2.text.2.num 2).2.text.1 },((s.take 32).2.text.2.num 2).2.text.2)
 else none
theorem num1_lt {s:Rd} (hb : ∀ x∈s.l,x<256):(s.num 1).1<256:=Rd.cZ hb 1
theorem num2_lt {s:Rd} (hb : ∀ x∈s.l,x<256):(s.num 2).1<65536:=Rd.cZ hb 2
theorem num4_lt {s:Rd} (hb : ∀ x∈s.l,x<256):(s.num 4).1<4294967296:=Rd.cZ hb 4
theorem num8_lt {s:Rd} (hb : ∀ x∈s.l,x<256):(s.num 8).1<18446744073709551616:=Rd.cZ hb 8
theorem wrap_nat {n:Nat} (h:n<4294967296):IntKind.wrap .i64 (n:Int)=(n:Int):=wrap_i64 (by omega) (by omega)
theorem i64_n {n:Nat} (h:n<4294967296):I64 (n:Int):=⟨by omega,by omega⟩
section
variable {h:aj} {p r M:Nat} {s:Rd} {m:aO} {sl:cR} (X:MsR h p r M s m sl)
include X
def Done (h:aj) (p r M:Nat) (o:Out) (q:aO×Rd):Prop := ∃ sl' h',o=some (.bool true,h')∧MsR h' p r M q.2 q.1 sl'∧Kept h h' (fun c=>c=r∨c=M)
omit X in
theorem kR {h h':aj} {r M:Nat} (k:Kept h h' (fun c=>c=r)):Kept h h' (fun c=>c=r∨c=M):=k.mono (fun _ _ h => .inl h)
omit X in
theorem kM {h h':aj} {r M:Nat} (k:Kept h h' (fun c=>c=M)):Kept h h' (fun c=>c=r∨c=M):=k.mono (fun _ _ h => .inr h)
omit X in
theorem is98:bO Tryz.prog 98 Tryz.f98:=⟨by kernel_rfl,by kernel_rfl,by kernel_rfl,by kernel_rfl⟩
theorem q98:Done h p r M (CW 98 [ptr r 0,ptr M 0] h) (pPing s m):=by
 obtain ⟨h1,e1,R1,k1,_⟩:=q128 X.R
 have X1:=X.rd R1 k1
 obtain ⟨h2,e2,R2,k2,_⟩:=q73 R1
 have X2:=X1.rd R2 k2
 have b1:=num8_lt X.R.byte
 have b2:=num1_lt R1.byte
 have w2:=wrap_nat (n:=((s.num 8).2.num 1).1) (by omega)
 obtain ⟨h3,e3,X3,k3,_⟩:=X2.put (v := .int .u64 ((s.num 8).1:Int)) (o:=3) (m':={ m with seq:=(s.num 8).1 }) (sl':=sl) (by decide) rfl rfl rfl ⟨⟨X2.x.sl.a,X2.x.sl.b,X2.x.sl.c,X2.x.sl.d,X2.x.sl.e,X2.x.sl.f⟩,{ X2.x.wf with seq:=b1 }⟩ X2.off
 obtain ⟨h4,e4,X4,k4,_⟩:=X3.put (v := .int .i64 (((s.num 8).2.num 1).1:Int)) (o:=4) (m':={ m with seq:=(s.num 8).1,origin:=((s.num 8).2.num 1).1 }) (sl':=sl) (by decide) rfl rfl rfl ⟨⟨X3.x.sl.a,X3.x.sl.b,X3.x.sl.c,X3.x.sl.d,X3.x.sl.e,X3.x.sl.f⟩,{ X3.x.wf with origin:=i64_n (by omega) }⟩ X3.off
 obtain ⟨v,h5,e5,R5,S5,w5,f5,k5⟩:=q129 X4.R
 have X5:=X4.rd R5 k5
 have rl:=X4.R.lt
 have hc:=ba S5
 obtain ⟨h6,e6,X6,k6,_⟩:=X5.put (v:=v) (o:=6) (m':=(pPing s m).1) (sl':={ sl with a:=v }) (by decide) hc.2.2 hc.2.1 rfl ⟨⟨S5,X5.x.sl.b,X5.x.sl.c,X5.x.sl.d,X5.x.sl.e,X5.x.sl.f⟩,{ X5.x.wf with table:=w5 }⟩ (off_a X5.off (fun b hb e=>by have:=f5 b hb;omega))
 refine ⟨_,h6,aF is98 X.R.g4 rfl ((t98_eq _ _ _ _).trans ?_),X6,((((kR k1).trans (kR k2)).trans ((kM k3).trans (kM k4))).trans (kR k5)).trans (kM k6)⟩
 unfold t98
 simp -implicitDefEqProofs only [e1,e2,bq,w2,bS,al,Nat.zero_add,e3,e4,e5,e6,af,ak]
omit X in
theorem is101:bO Tryz.prog 101 Tryz.f101:=⟨by kernel_rfl,by kernel_rfl,by kernel_rfl,by kernel_rfl⟩
theorem q101:Done h p r M (CW 101 [ptr r 0,ptr M 0] h) (pReq s m):=by
 obtain ⟨h1,e1,R1,k1,_⟩:=q128 X.R
 have X1:=X.rd R1 k1
 obtain ⟨h2,e2,R2,k2,_⟩:=q73 R1
 have X2:=X1.rd R2 k2
 have b1:=num8_lt X.R.byte
 have b2:=num1_lt R1.byte
 have w2:=wrap_nat (n:=((s.num 8).2.num 1).1) (by omega)
 obtain ⟨h3,e3,X3,k3,_⟩:=X2.put (v := .int .u64 ((s.num 8).1:Int)) (o:=3) (m':={ m with seq:=(s.num 8).1 }) (sl':=sl) (by decide) rfl rfl rfl ⟨⟨X2.x.sl.a,X2.x.sl.b,X2.x.sl.c,X2.x.sl.d,X2.x.sl.e,X2.x.sl.f⟩,{ X2.x.wf with seq:=b1 }⟩ X2.off
 obtain ⟨h4,e4,X4,k4,_⟩:=X3.put (v := .int .i64 (((s.num 8).2.num 1).1:Int)) (o:=5) (m':={ m with seq:=(s.num 8).1,target:=((s.num 8).2.num 1).1 }) (sl':=sl) (by decide) rfl rfl rfl ⟨⟨X3.x.sl.a,X3.x.sl.b,X3.x.sl.c,X3.x.sl.d,X3.x.sl.e,X3.x.sl.f⟩,{ X3.x.wf with target:=i64_n (by omega) }⟩ X3.off
 obtain ⟨v,h5,e5,R5,S5,w5,f5,k5⟩:=q129 X4.R
 have X5:=X4.rd R5 k5
 have rl:=X4.R.lt
 have hc:=ba S5
 obtain ⟨h6,e6,X6,k6,_⟩:=X5.put (v:=v) (o:=6) (m':=(pReq s m).1) (sl':={ sl with a:=v }) (by decide) hc.2.2 hc.2.1 rfl ⟨⟨S5,X5.x.sl.b,X5.x.sl.c,X5.x.sl.d,X5.x.sl.e,X5.x.sl.f⟩,{ X5.x.wf with table:=w5 }⟩ (off_a X5.off (fun b hb e=>by have:=f5 b hb;omega))
 refine ⟨_,h6,aF is101 X.R.g4 rfl ((t101_eq _ _ _ _).trans ?_),X6,((((kR k1).trans (kR k2)).trans ((kM k3).trans (kM k4))).trans (kR k5)).trans (kM k6)⟩
 unfold t101
 simp -implicitDefEqProofs only [e1,e2,bq,w2,bS,al,Nat.zero_add,e3,e4,e5,e6,af,ak]
omit X in
theorem is105:bO Tryz.prog 105 Tryz.f105:=⟨by kernel_rfl,by kernel_rfl,by kernel_rfl,by kernel_rfl⟩
theorem q105:Done h p r M (CW 105 [ptr r 0,ptr M 0] h) (pObj s m):=by
 obtain ⟨h1,e1,R1,k1⟩:=q130 X.R
 have X1:=X.rd R1 k1
 have hd:=pad_ok X.R.byte
 obtain ⟨h2,e2,X2,k2,_⟩:=X1.putN (o:=44) (n:=32) (m':=(pObj s m).1) (sl':=sl) (by decide) (bX hd) (cJ _).2 (c44 X1.x.wf hd.1) ⟨⟨X1.x.sl.a,X1.x.sl.b,X1.x.sl.c,X1.x.sl.d,X1.x.sl.e,X1.x.sl.f⟩,{ X1.x.wf with obj:=hd }⟩ X1.off
 refine ⟨_,h2,aF is105 X.R.g4 rfl ((t105_eq _ _ _ _).trans ?_),X2,(kR k1).trans (kM k2)⟩
 unfold t105
 simp -implicitDefEqProofs only [e1,bS,al,Nat.zero_add,e2,af,ak]
omit X in
theorem is121:bO Tryz.prog 121 Tryz.f121:=⟨by kernel_rfl,by kernel_rfl,by kernel_rfl,by kernel_rfl⟩
theorem q121:Done h p r M (CW 121 [ptr r 0,ptr M 0] h) (pStored s m):=by
 obtain ⟨h1,e1,R1,k1⟩:=q130 X.R
 have X1:=X.rd R1 k1
 have hd:=pad_ok X.R.byte
 obtain ⟨h2,e2,X2,k2,_⟩:=X1.putN (o:=44) (n:=32) (m':=(pObj s m).1) (sl':=sl) (by decide) (bX hd) (cJ _).2 (c44 X1.x.wf hd.1) ⟨⟨X1.x.sl.a,X1.x.sl.b,X1.x.sl.c,X1.x.sl.d,X1.x.sl.e,X1.x.sl.f⟩,{ X1.x.wf with obj:=hd }⟩ X1.off
 obtain ⟨h3,e3,R3,k3,_⟩:=q72 X2.R
 have X3:=X2.rd R3 k3
 have b3:=num2_lt R1.byte
 have w3:=wrap_nat (n:=((s.take 32).2.num 2).1) (by omega)
 obtain ⟨h4,e4,X4,k4,_⟩:=X3.put (v := .int .i64 (((s.take 32).2.num 2).1:Int)) (o:=115) (m':=(pStored s m).1) (sl':=sl) (by decide) rfl rfl (c115 X3.x.wf _) ⟨⟨X3.x.sl.a,X3.x.sl.b,X3.x.sl.c,X3.x.sl.d,X3.x.sl.e,X3.x.sl.f⟩,{ X3.x.wf with code:=i64_n (by omega) }⟩ X3.off
 refine ⟨_,h4,aF is121 X.R.g4 rfl ((t121_eq _ _ _ _).trans ?_),X4,(((kR k1).trans (kM k2)).trans (kR k3)).trans (kM k4)⟩
 unfold t121
 simp -implicitDefEqProofs only [e1,bS,al,Nat.zero_add,e2,e3,bq,w3,e4,af,ak]
omit X in
theorem is114:bO Tryz.prog 114 Tryz.f114:=⟨by kernel_rfl,by kernel_rfl,by kernel_rfl,by kernel_rfl⟩
theorem q114:Done h p r M (CW 114 [ptr r 0,ptr M 0] h) (pSum s m):=by
 have rl:=X.R.lt
 obtain ⟨a1,c1,h1,e1,s1,g1,R1,k1,f1⟩:=q135 X.R
 have X1:=X.rd R1 k1
 obtain ⟨a2,c2,h2,e2,s2,g2,R2,k2,f2⟩:=q135 R1
 have X2:=X1.rd R2 k2
 have m1:=k1.next
 have S1:dh h2 [.u8] (.slice a1 s.text.1.length c1) s.text.1.length (bP s.text.1):=(sl_bytes s1).bF k2 (fun b hb e=>by have:=slB_blk f1 b hb;omega)
 have S2:dh h2 [.u8] (.slice a2 s.text.2.text.1.length c2) s.text.2.text.1.length (bP s.text.2.text.1):=sl_bytes s2
 have o1 : ∀ b,slB (.slice a1 s.text.1.length c1)=some b → ¬b≤r:=fun b hb e=>by have:=slB_blk f1 b hb;omega
 have o2 : ∀ b,slB (.slice a2 s.text.2.text.1.length c2)=some b → ¬b≤r:=fun b hb e=>by have:=slB_blk f2 b hb;omega
 obtain ⟨h3,e3,X3,k3,_⟩:=X2.put (v := .slice a1 s.text.1.length c1) (o:=7) (m':={ m with low:=s.text.1 }) (sl':={ sl with b := .slice a1 s.text.1.length c1 }) (by decide) rfl rfl rfl ⟨⟨X2.x.sl.a,S1,X2.x.sl.c,X2.x.sl.d,X2.x.sl.e,X2.x.sl.f⟩,{ X2.x.wf with low:=(aw s1).2.1 }⟩ (off_b X2.off o1)
 have h13:=X.Mp
 have h14:=X.R.pr
 have S2':=S2.bF k3 (fun b hb e=>o2 b hb (by omega))
 obtain ⟨h4,e4,X4,k4,_⟩:=X3.put (v := .slice a2 s.text.2.text.1.length c2) (o:=8) (m':={ m with low:=s.text.1,high:=s.text.2.text.1 }) (sl':={ sl with b := .slice a1 s.text.1.length c1,c := .slice a2 s.text.2.text.1.length c2 }) (by decide) rfl rfl rfl ⟨⟨X3.x.sl.a,X3.x.sl.b,S2',X3.x.sl.d,X3.x.sl.e,X3.x.sl.f⟩,{ X3.x.wf with high:=(aw s2).2.1 }⟩ (off_c X3.off o2)
 obtain ⟨h5,e5,R5,k5,_⟩:=q33 X4.R
 have X5:=X4.rd R5 k5
 have b5:=num4_lt R2.byte
 have w5:=wrap_nat b5
 obtain ⟨h6,e6,X6,k6,_⟩:=X5.put (v := .int .i64 ((s.text.2.text.2.num 4).1:Int)) (o:=9) (m':={ m with low:=s.text.1,high:=s.text.2.text.1,count:=(s.text.2.text.2.num 4).1 }) (sl':={ sl with b := .slice a1 s.text.1.length c1,c := .slice a2 s.text.2.text.1.length c2 }) (by decide) rfl rfl rfl ⟨⟨X5.x.sl.a,X5.x.sl.b,X5.x.sl.c,X5.x.sl.d,X5.x.sl.e,X5.x.sl.f⟩,{ X5.x.wf with count:=i64_n b5 }⟩ X5.off
 obtain ⟨h7,e7,R7,k7⟩:=q130 X6.R
 have X7:=X6.rd R7 k7
 have hd:=pad_ok X6.R.byte
 obtain ⟨h8,e8,X8,k8,_⟩:=X7.putN (o:=10) (n:=32) (m':=(pSum s m).1) (sl':={ sl with b := .slice a1 s.text.1.length c1,c := .slice a2 s.text.2.text.1.length c2 }) (by decide) (bX hd) (cJ _).2 (c10 X7.x.wf hd.1) ⟨⟨X7.x.sl.a,X7.x.sl.b,X7.x.sl.c,X7.x.sl.d,X7.x.sl.e,X7.x.sl.f⟩,{ X7.x.wf with root:=hd }⟩ X7.off
 refine ⟨_,h8,aF is114 X.R.g4 rfl ((t114_eq _ _ _ _).trans ?_),X8,(((((((kR k1).trans (kR k2)).trans (kM k3)).trans (kM k4)).trans (kR k5)).trans (kM k6)).trans (kR k7)).trans (kM k8)⟩
 unfold t114
 simp -implicitDefEqProofs only [e1,e2,bS,al,Nat.zero_add,e3,e4,e5,bq,w5,e6,e7,e8,af,ak]
end
end Go.Proofs.YtjghlcdidopcpaaGreatDoor

namespace Go.Proofs.YtjghlcdidopcpaaGreatDoor
open Go Go.Abs
attribute [local congr] aU
theorem Rd.rest_len (s:Rd) (n:Nat):(s.take n).2.l.length≤s.l.length:=by
 unfold Rd.take
 split
 ·split
  ·rw [List.length_drop];omega
  ·exact Nat.le_refl _
 ·exact Nat.le_refl _
theorem Rd.text_small {s:Rd} (h:s.l.length≤21000):s.text.1.length≤21000:=by
 unfold Rd.text
 split
 ·split
  ·exact Rd.take_small (Nat.le_trans (s.rest_len 2) h) _
  ·exact Nat.zero_le _
 ·exact Nat.zero_le _
def DoneO (h:aj) (p r M:Nat) (o:Out) (q:Option (aO×Rd)):Prop:=match q with
 |some q=>Done h p r M o q
 |none => ∃ h',o=some (.bool false,h')∧Kept h h' (fun c=>c=r∨c=M)
theorem is117:bO Tryz.prog 117 Tryz.f117:=⟨by kernel_rfl,by kernel_rfl,by kernel_rfl,by kernel_rfl⟩
theorem results117:Tryz.f117.results.toList = [.tmp 4]:=by kernel_rfl
theorem b117_exit (C:au) (e:Env) (h:aj):b117_6 C 0 e h=k117_4 C e h:=rfl
structure ItI (hl:aj) (p r M n:Nat) (m:aO) (sl:cR) (c5:Value) (s0:Rd) (k:Nat) (y:Nat→Value) (g:aj) (i:Nat) (rs:List bK) (s1:Rd) (v:Value):Prop where
 ik:i+k=n
 y0:y 0=ptr r 0
 y1:y 1=ptr M 0
 y5:y 5=c5
 cV:y 26 = .int .u16 (n:Int)
 dn:y 27 = .int .u16 (i:Int)
 X:MsR g p r M s1 { m with cp:=rs } { sl with d:=v }
 o:dJ g hl.next 39 v rs.length (rs.flatMap recC)
 l:rs.length=i
 K:Kept hl g (fun c=>c=r∨c=M)
 e:fm n s0=(fm k s1).map fun q=>(rs++q.1,q.2)
def itI (hl:aj) (p r M n:Nat) (m:aO) (sl:cR) (c5:Value) (s0:Rd) (k:Nat) (y:Nat→Value) (g:aj):Prop := ∃ i rs s1 v,ItI hl p r M n m sl c5 s0 k y g i rs s1 v
def itF (hl:aj) (p r M n:Nat) (m:aO) (sl:cR) (c5:Value) (s0:Rd) (ex:Ex) (y:Nat→Value) (g:aj):Prop:=
 Kept hl g (fun c=>c=r∨c=M)∧((ex = .ret∧y 4 = .bool false∧fm n s0=none)∨(ex = .exit 0∧y 5=c5 ∧ ∃ q v,fm n s0=some q∧MsR g p r M q.2 { m with cp:=q.1 } { sl with d:=v }))
theorem itRd {hl:aj} {p r M n:Nat} {m:aO} {sl:cR} {c5:Value} {s0:Rd} (hn:n<65536) (hr:r<hl.next) (hM:M<hl.next)
  (ha : ∀ b,slB sl.a=some b→b<hl.next) (hb : ∀ b,slB sl.b=some b→b<hl.next) (hc : ∀ b,slB sl.c=some b→b<hl.next) (he : ∀ b,slB sl.e=some b→b<hl.next) (hf : ∀ b,slB sl.f=some b→b<hl.next) :
  ∀ k y g,itI hl p r M n m sl c5 s0 k y g→dd 50 (itI hl p r M n m sl c5 s0) (itF hl p r M n m sl c5 s0) k (fg CW y g):=by
 rintro k y g ⟨i,rs,s1,v,I⟩
 have hik:=I.ik
 unfold fg
 cases k with
 |zero=>
  have hd:decide ((i:Int)<(n:Int))=false:=decide_eq_false (by omega)
  simp -implicitDefEqProofs only [I.dn,I.cV,aC,hd,af,ak]
  have hp:fm n s0=some (rs,s1):=by rw [I.e];simp [fm]
  exact dd.out 0 ⟨I.K,.inr ⟨rfl,I.y5,_,v,hp,I.X⟩⟩
 |succ k=>
  have hd:decide ((i:Int)<(n:Int))=true:=decide_eq_true (by omega)
  have X:=I.X
  have hMp:=X.Mp
  have hpr:=X.R.pr
  obtain ⟨a1,c1,g1,e1,sb1,_,R1,k1,f1⟩:=q74 X.R (n:=53)
  have e1:CW 74 [ptr r 0,.int .i64 53] g=_:=e1
  have X1:=X.rd R1 k1
  obtain ⟨g2,e2,o2⟩:=q140 R1.g4 (c:=c1) sb1 (Nat.le_trans (s1.eD 53) (by decide))
  have X2:=X1.bA o2
  have wx:=decR_wf (aw sb1).2.1
  have hpe:=I.e
  have hstep:fm (k+1) s1=if (dA (s1.take 53).1).2=0 then (fm k (s1.take 53).2).map fun q=>((dA (s1.take 53).1).1::q.1,q.2) else none:=rfl
  generalize hdec:dA (s1.take 53).1=D at *
  obtain ⟨x,er⟩:=D
  obtain ⟨g3,z3,o3,q3,n3⟩:=fresh [(.int .u8 0),(.int .u8 0),(.int .u8 0),(.int .u8 0),(.int .u8 0),(.int .u8 0),(.int .u8 0),(.int .u8 0),(.int .u8 0),(.int .u8 0),(.int .u8 0),(.int .u8 0),(.int .u8 0),(.int .u8 0),(.int .u8 0),(.int .u8 0),(.int .u8 0),(.int .u8 0),(.int .u8 0),(.int .u8 0),(.int .u8 0),(.int .u8 0),(.int .u8 0),(.int .u8 0),(.int .u8 0),(.int .u8 0),(.int .u8 0),(.int .u8 0),(.int .u8 0),(.int .u8 0),(.int .u8 0),(.int .u8 0),(.int .u8 0),(.int .i64 0),(.int .u64 0),(.int .u64 0),(.bool false),(.int .i64 0),(.int .i64 0)] g2
  have p3:g3.n0≤g2.next:=by rw [o3.n0];exact g2.aK
  have wx:x.Wf:=wx
  obtain ⟨g4,e4,k4,q4,_,n4⟩:=bJ (n:=39) (k':=recC x) q3 p3 rfl (bL wx).1 (bL wx).2.2
  have o24:Old g2 g4:=Old.eF o3 k4 (Nat.le_refl _)
  have X4:=X2.bA o24
  have l4:bD 39 (ptr g2.next 0) g4=some (.agg (recC x).toArray,g4):=cA q4 (bL wx).1 (bL wx).2.1
  have K4:Kept hl g4 (fun c=>c=r∨c=M):=(I.K.trans (kR k1)).trans ((o2.trans o24).mono (fun _ _ h=>h.elim))
  by_cases hz:er=0
  ·subst hz
   have q5:bin Tryz.prog .neq 35 (.int .i64 0) (.int .i64 0)=some (.bool false):=by rw [ax];rfl
   have l5:aN (ptr M 42) g4=some (v,g4):=aV X4.g (at42 (aO.ok X4.x.wf)) (ba X4.x.sl.d).1
   have hbs:=bsl_one (n:=39) (z := [(.int .u8 0),(.int .u8 0),(.int .u8 0),(.int .u8 0),(.int .u8 0),(.int .u8 0),(.int .u8 0),(.int .u8 0),(.int .u8 0),(.int .u8 0),(.int .u8 0),(.int .u8 0),(.int .u8 0),(.int .u8 0),(.int .u8 0),(.int .u8 0),(.int .u8 0),(.int .u8 0),(.int .u8 0),(.int .u8 0),(.int .u8 0),(.int .u8 0),(.int .u8 0),(.int .u8 0),(.int .u8 0),(.int .u8 0),(.int .u8 0),(.int .u8 0),(.int .u8 0),(.int .u8 0),(.int .u8 0),(.int .u8 0),(.int .u8 0),(.int .i64 0),(.int .u64 0),(.int .u64 0),(.bool false),(.int .i64 0),(.int .i64 0)]) (cells:=recC x) g4 rfl rfl (by decide) (by decide) (bL wx).1 (bL wx).2.2
   have oa:Old g4 (g4.alloc (recC x)):=Kept.alloc _ _ _
   have ga:(g4.alloc (recC x)).get g4.next=some (recC x):=by rw [aj.aS,if_pos rfl]
   have hbs:bslR 39 (.agg #[(.int .u8 0),(.int .u8 0),(.int .u8 0),(.int .u8 0),(.int .u8 0),(.int .u8 0),(.int .u8 0),(.int .u8 0),(.int .u8 0),(.int .u8 0),(.int .u8 0),(.int .u8 0),(.int .u8 0),(.int .u8 0),(.int .u8 0),(.int .u8 0),(.int .u8 0),(.int .u8 0),(.int .u8 0),(.int .u8 0),(.int .u8 0),(.int .u8 0),(.int .u8 0),(.int .u8 0),(.int .u8 0),(.int .u8 0),(.int .u8 0),(.int .u8 0),(.int .u8 0),(.int .u8 0),(.int .u8 0),(.int .u8 0),(.int .u8 0),(.int .i64 0),(.int .u64 0),(.int .u64 0),(.bool false),(.int .i64 0),(.int .i64 0)]) 1 [(0,.agg (recC x).toArray)] g4=some (.slice (some ⟨g4.next,0,none⟩) 1 1,g4.alloc (recC x)):=hbs
   generalize g4.alloc (recC x)=g5 at *
   have S:=slice1 (s:=none) ga (fP wx)
   have X5:=X4.bA oa
   have kk:Kept g g5 (fun c=>c=r):=k1.trans (((o2.trans o24).trans oa).mono (fun _ _ h=>h.elim))
   have O5:=I.o.bF kk (fun b hb e=>by have:=cG I.o hb;omega)
   have p5:g5.n0≤hl.next:=by rw [kk.n0,I.K.n0];exact hl.aK
   obtain ⟨v',g6,e6,O6,k6,_⟩:=eS (by_:=88) O5 p5 (Nat.le_trans I.K.next kk.next) (by decide) S.slice (S.first (by decide)) (bL wx).2.2 (bL wx).2.1 (by rw [(bL wx).1]) (by have:=I.l;omega) (by have:=I.l;omega)
   have hB : ∀ b,dm v=some b∧g5.get b=some (rs.flatMap recC)→hl.next≤b:=fun b e=>cG O5 e.1
   have R6:=X5.R.dY k6 (fun b hb e=>by have:=hB b e;omega)
   have G6:=k6.dj X5.g (fun e=>by have:=hB _ e;omega)
   have p6:g6.n0≤M:=by rw [k6.n0];exact X5.n0
   have O6':dJ g6 hl.next 39 v' (rs ++ [x]).length ((rs ++ [x]).flatMap recC):=by
    rw [List.flatMap_append,List.length_append]
    simpa using O6
   have wall : ∀ y∈rs ++ [x],y.Wf:=fun y hy=>by
    rcases List.mem_append.1 hy with hy|hy
    ·exact X5.x.wf.cp y hy
    ·simp only [List.mem_cons,List.not_mem_nil,or_false] at hy
     subst hy;exact wx
   have S6:dh g6 recK v' (rs ++ [x]).length ((rs ++ [x]).flatMap recC):=own_sl (ks:=recK) O6' (cY (P:=bK.Wf) (fun a ha=>fP ha) _ wall)
   have hcell':=ba S6
   obtain ⟨g7,e7,k7,G7,p7,n7⟩:=stored (v:=v') (o:=42) G6 p6 (by rw [fS (aO.ok X5.x.wf)];decide) hcell'.2.2 hcell'.2.1
   rw [set42 (aO.ok X5.x.wf)] at G7
   have R7:=R6.dY k7 (fun b hb e=>by omega)
   have big : ∀ b,slB v'=some b→hl.next≤b:=fun b hb=>own_blk O6' hb
   have off7:({ sl with d:=v' }:cR).off (fun b=>b≤r):=off_d (s:={ sl with d:=v }) X5.off (fun b hb e=>by have:=big b hb;omega)
   have nM : ∀ w,(∀ b,slB w=some b → ¬b≤r) → ∀ b,slB w=some b → ¬b=M:=fun w hw b hb e=>hw b hb (by omega)
   have offs:=X5.off
   have XX:MsR g7 p r M (s1.take 53).2 { m with cp:=rs ++ [x] } { sl with d:=v' }:=by
    refine ⟨R7,G7,⟨⟨?_,?_,?_,?_,?_,?_⟩,{ X5.x.wf with cp:=wall }⟩,off7,X5.Mp,p7⟩
    ·exact (X5.x.sl.a.bF k6 (fun b hb e=>by have:=ha b hb;have:=hB b e;omega)).bF k7 (nM _ (offs _ (.inl rfl)))
    ·exact (X5.x.sl.b.bF k6 (fun b hb' e=>by have:=hb b hb';have:=hB b e;omega)).bF k7 (nM _ (offs _ (.inr (.inl rfl))))
    ·exact (X5.x.sl.c.bF k6 (fun b hb e=>by have:=hc b hb;have:=hB b e;omega)).bF k7 (nM _ (offs _ (.inr (.inr (.inl rfl)))))
    ·exact S6.bF k7 (fun b hb e=>by have:=big b hb;omega)
    ·exact (X5.x.sl.e.bF k6 (fun b hb e=>by have:=he b hb;have:=hB b e;omega)).bF k7 (nM _ (offs _ (.inr (.inr (.inr (.inr (.inl rfl)))))))
    ·exact (X5.x.sl.f.bF k6 (fun b hb e=>by have:=hf b hb;have:=hB b e;omega)).bF k7 (nM _ (offs _ (.inr (.inr (.inr (.inr (.inr rfl)))))))
   have had:bin Tryz.prog .add 65 (.int .u16 (i:Int)) (.int .u16 1)=some (.int .u16 ((i+1:Nat):Int)):=by
    rw [bin_add,wrap_u16 (by omega) (by omega)]
    exact congrArg (fun z=>some (Value.int .u16 z)) (by omega)
   simp -implicitDefEqProofs only [I.dn,I.cV,aC,hd,I.y0,e1,e2,a8,a7,z3,e4,q5,I.y1,bS,al,Nat.zero_add,l5,l4,hbs,e6,e7,had,af,ak]
   refine dd.next k (by omega) ⟨i+1,rs ++ [x],_,v',by omega,I.y0,I.y1,I.y5,I.cV,rfl,XX,O6'.bF k7 (fun b hb e=>by have:=cG O6' hb;omega),by rw [List.length_append,I.l];rfl,?_,?_⟩
   ·exact ((K4.trans (oa.mono (fun _ _ h=>h.elim))).cE k6 (fun d hd e=>by have:=hB d e;omega)).trans (kM k7)
   ·rw [hpe,hstep,if_pos rfl]
    cases fm k (s1.take 53).2 with
    |none=>rfl
    |some q=>simp
  ·have q5:bin Tryz.prog .neq 35 (.int .i64 er) (.int .i64 0)=some (.bool true):=by rw [ax];simpa using hz
   simp -implicitDefEqProofs only [I.dn,I.cV,aC,hd,I.y0,e1,e2,a8,a7,z3,e4,q5,af,ak]
   refine dd.ret ⟨K4,.inl ⟨rfl,rfl,?_⟩⟩
   rw [hpe,hstep,if_neg hz]
   rfl
section
variable {h:aj} {p r M:Nat} {s:Rd} {m:aO} {sl:cR} (X:MsR h p r M s m sl)
include X
set_option maxRecDepth 100000 in
theorem q117 (hr0:m.cp = []) (hs0:sl.d = .slice none 0 0):DoneO h p r M (CW 117 [ptr r 0,ptr M 0] h) (pItems s m):=by
 have rl:=X.R.lt
 obtain ⟨a1,c1,h1,e1,s1,g1,R1,k1,f1⟩:=q135 X.R
 have X1:=X.rd R1 k1
 obtain ⟨a2,c2,h2,e2,s2,g2,R2,k2,f2⟩:=q135 R1
 have X2:=X1.rd R2 k2
 have m1:=k1.next
 have S1:dh h2 [.u8] (.slice a1 s.text.1.length c1) s.text.1.length (bP s.text.1):=(sl_bytes s1).bF k2 (fun b hb e=>by have:=slB_blk f1 b hb;omega)
 have S2:dh h2 [.u8] (.slice a2 s.text.2.text.1.length c2) s.text.2.text.1.length (bP s.text.2.text.1):=sl_bytes s2
 have o1 : ∀ b,slB (.slice a1 s.text.1.length c1)=some b → ¬b≤r:=fun b hb e=>by have:=slB_blk f1 b hb;omega
 have o2 : ∀ b,slB (.slice a2 s.text.2.text.1.length c2)=some b → ¬b≤r:=fun b hb e=>by have:=slB_blk f2 b hb;omega
 obtain ⟨h3,e3,X3,k3,_⟩:=X2.put (v := .slice a1 s.text.1.length c1) (o:=7) (m':={ m with low:=s.text.1 }) (sl':={ sl with b := .slice a1 s.text.1.length c1 }) (by decide) rfl rfl rfl ⟨⟨X2.x.sl.a,S1,X2.x.sl.c,X2.x.sl.d,X2.x.sl.e,X2.x.sl.f⟩,{ X2.x.wf with low:=(aw s1).2.1 }⟩ (off_b X2.off o1)
 have h13:=X.Mp
 have h14:=X.R.pr
 have S2':=S2.bF k3 (fun b hb e=>o2 b hb (by omega))
 obtain ⟨h4,e4,X4,k4,_⟩:=X3.put (v := .slice a2 s.text.2.text.1.length c2) (o:=8) (m':={ m with low:=s.text.1,high:=s.text.2.text.1 }) (sl':={ sl with b := .slice a1 s.text.1.length c1,c := .slice a2 s.text.2.text.1.length c2 }) (by decide) rfl rfl rfl ⟨⟨X3.x.sl.a,X3.x.sl.b,S2',X3.x.sl.d,X3.x.sl.e,X3.x.sl.f⟩,{ X3.x.wf with high:=(aw s2).2.1 }⟩ (off_c X3.off o2)
 obtain ⟨h5,e5,R5,k5,_⟩:=q73 X4.R
 have X5:=X4.rd R5 k5
 have b5:=num1_lt R2.byte
 have q5:(((s.text.2.text.2.num 1).1:Int)==1)=((s.text.2.text.2.num 1).1==1):=by
  by_cases e:(s.text.2.text.2.num 1).1=1
  ·rw [e];rfl
  ·rw [beq_eq_false_iff_ne.2 e,beq_eq_false_iff_ne.2 (by omega)]
 obtain ⟨h6,e6,X6,k6,_⟩:=X5.put (v := .bool ((s.text.2.text.2.num 1).1==1)) (o:=43) (m':={ m with low:=s.text.1,high:=s.text.2.text.1,want:=(s.text.2.text.2.num 1).1==1 }) (sl':={ sl with b := .slice a1 s.text.1.length c1,c := .slice a2 s.text.2.text.1.length c2 }) (by decide) rfl rfl (c43 X5.x.wf _) ⟨⟨X5.x.sl.a,X5.x.sl.b,X5.x.sl.c,X5.x.sl.d,X5.x.sl.e,X5.x.sl.f⟩,{ X5.x.wf with }⟩ X5.off
 obtain ⟨h7,e7,R7,k7,_⟩:=q72 X6.R
 have X7:=X6.rd R7 k7
 have b7:=num2_lt R5.byte
 have K7:Kept h h7 (fun c=>c=r∨c=M):=((((((kR k1).trans (kR k2)).trans (kM k3)).trans (kM k4)).trans (kR k5)).trans (kM k6)).trans (kR k7)
 have X0:MsR h7 p r M ((s.text.2.text.2.num 1).2.num 2).2 { m with low:=s.text.1,high:=s.text.2.text.1,want:=(s.text.2.text.2.num 1).1==1,cp := [] } { sl with b := .slice a1 s.text.1.length c1,c := .slice a2 s.text.2.text.1.length c2,d := .slice none 0 0 }:=by
  have:=X7
  rw [←hr0,←hs0]
  exact this
 have lt:=fun {v:Value} {n:Nat} {cs:List Value} {ks:List Kd} (S:dh h7 ks v n cs)=>fun b hb=>S.lt (b:=b) hb
 have fin : ∀ y,y 0=ptr r 0→y 1=ptr M 0→y 5 = .int .u8 ((s.text.2.text.2.num 1).1:Int)→y 26 = .int .u16 (((s.text.2.text.2.num 1).2.num 2).1:Int)→y 27 = .int .u16 ((0:Nat):Int)→DoneO h p r M (dX (iter (aM Tryz.prog CW (partOf Tryz.f117 [1,1,1,1,0,1,0,0])) rounds (aJ 50 y) h7) (ar Tryz.prog Tryz.f117.results.toList) (b117_6 CW)) (pItems s m):=fun y y0 y1 y5 cV dn=>by
  refine bY (Q:=fun o:Out=>DoneO h p r M o (pItems s m)) (bZ (t117l117_1111010_eq CW) (itRd (hl:=h7) (p:=p) (r:=r) (M:=M) (n:=((s.text.2.text.2.num 1).2.num 2).1) (m:={ m with low:=s.text.1,high:=s.text.2.text.1,want:=(s.text.2.text.2.num 1).1==1 }) (sl:={ sl with b := .slice a1 s.text.1.length c1,c := .slice a2 s.text.2.text.1.length c2 }) (c5 := .int .u8 ((s.text.2.text.2.num 1).1:Int)) (s0:=((s.text.2.text.2.num 1).2.num 2).2) b7 X7.R.lt (h7.bc X7.g) (lt X7.x.sl.a) (lt X7.x.sl.b) (lt X7.x.sl.c) (lt X7.x.sl.e) (lt X7.x.sl.f)) ((s.text.2.text.2.num 1).2.num 2).1 (by have:rounds=18446744073709551616:=rfl;omega)
   ⟨0,[],_,.slice none 0 0,Nat.zero_add _,y0,y1,y5,cV,dn,X0,.nil _ _ _,rfl,Kept.refl _ _,by
     cases fm ((s.text.2.text.2.num 1).2.num 2).1 ((s.text.2.text.2.num 1).2.num 2).2 with
     |none=>rfl
     |some q=>rfl⟩) ?_
  rintro ex z g ⟨K,⟨rfl,z4,hp⟩|⟨rfl,z5,q,v,hp,XX⟩⟩
  ·rw [dG,fG (t:=4) results117 (by decide),z4]
   unfold pItems
   rw [hp]
   exact ⟨g,rfl,K7.trans K⟩
  ·rw [bE,b117_exit,t117k117_4_eq]
   unfold t117k117_4 pItems
   rw [hp]
   simp -implicitDefEqProofs only [z5,aD,af,ak]
   by_cases hw:(s.text.2.text.2.num 1).1≤1
   ·rw [if_pos hw,decide_eq_true (by omega:((s.text.2.text.2.num 1).1:Int)≤1)]
    exact ⟨_,g,rfl,XX,K7.trans K⟩
   ·rw [if_neg hw,decide_eq_false (by omega : ¬((s.text.2.text.2.num 1).1:Int)≤1)]
    exact ⟨g,rfl,K7.trans K⟩
 have key:DoneO h p r M (t117 CW (ptr r 0) (ptr M 0) h) (pItems s m):=by
  unfold t117
  simp -implicitDefEqProofs only [e1,e2,bS,al,Nat.zero_add,e3,e4,e5,az,q5,e6,e7,af,ak]
  exact fin _ rfl rfl rfl rfl rfl
 unfold DoneO at key ⊢
 cases hq:pItems s m with
 |none=>
  rw [hq] at key
  obtain ⟨h',e,k⟩:=key
  exact ⟨h',aF is117 X.R.g4 rfl ((t117_eq _ _ _ _).trans e),k⟩
 |some q=>
  rw [hq] at key
  obtain ⟨sl',h',e,x,k⟩:=key
  exact ⟨sl',h',aF is117 X.R.g4 rfl ((t117_eq _ _ _ _).trans e),x,k⟩
omit X in
theorem is109:bO Tryz.prog 109 Tryz.f109:=⟨by kernel_rfl,by kernel_rfl,by kernel_rfl,by kernel_rfl⟩
set_option maxRecDepth 100000 in
theorem q109:DoneO h p r M (CW 109 [ptr r 0,ptr M 0] h) (pPiece s m):=by
 have rl:=X.R.lt
 have h13:=X.Mp
 have h14:=X.R.pr
 obtain ⟨h1,e1,R1,k1⟩:=q130 X.R
 have X1:=X.rd R1 k1
 have hd:=pad_ok X.R.byte
 obtain ⟨h2,e2,X2,k2,_⟩:=X1.putN (o:=44) (n:=32) (m':=(pObj s m).1) (sl':=sl) (by decide) (bX hd) (cJ _).2 (c44 X1.x.wf hd.1) ⟨⟨X1.x.sl.a,X1.x.sl.b,X1.x.sl.c,X1.x.sl.d,X1.x.sl.e,X1.x.sl.f⟩,{ X1.x.wf with obj:=hd }⟩ X1.off
 obtain ⟨a3,c3,h3,e3,s3,g3,R3,k3,f3⟩:=q135 X2.R
 have X3:=X2.rd R3 k3
 have m3:=Nat.le_trans k1.next k2.next
 have tl:(s.take 32).2.text.1.length≤21000:=Rd.text_small R1.len
 obtain ⟨v4,h4,e4,o4,w4,S4,f4⟩:=q134 R3.g4 (c:=c3) s3 tl
 have X4:=X3.bA o4
 obtain ⟨h5,z5,o5,g5,n5⟩:=fresh [(.int .i64 0),(.int .i64 0),(.int .i64 0),(.int .i64 0),(.int .u8 0),(.int .u8 0),(.int .u8 0),(.int .u8 0),(.int .u8 0),(.int .u8 0),(.int .u8 0),(.int .u8 0),(.int .u8 0),(.int .u8 0),(.int .u8 0),(.int .u8 0),(.int .u8 0),(.int .u8 0),(.int .u8 0),(.int .u8 0),(.int .u8 0),(.int .u8 0),(.int .u8 0),(.int .u8 0),(.int .u8 0),(.int .u8 0),(.int .u8 0),(.int .u8 0),(.int .u8 0),(.int .u8 0),(.int .u8 0),(.int .u8 0),(.int .u8 0),(.int .u8 0),(.int .u8 0),(.int .u8 0),(.slice none 0 0)] h4
 have p5:h5.n0≤h4.next:=by rw [o5.n0];exact h4.aK
 have hv4:=ba S4
 have mc:=fH (m:=(cM (s.take 32).2.text.1).1) (v:=v4) w4.obj.1 ⟨hv4.1,hv4.2.1⟩
 obtain ⟨h6,e6,k6,g6,_,_⟩:=bJ (n:=37) g5 p5 rfl mc.1 mc.2.2
 have o46:Old h4 h6:=Old.eF o5 k6 (Nat.le_refl _)
 have X6:=X4.bA o46
 have l6:=cA (n:=37) g6 mc.1 mc.2.1
 have fv : ∀ b,slB v4=some b → ¬b≤r:=fun b hb e=>by
  have:=f4 b hb
  have:=k3.next
  omega
 obtain ⟨h7,e7,X7,k7,_⟩:=X6.putN (o:=76) (n:=37) (k:=cK (cM (s.take 32).2.text.1).1 v4) (m':={ (pObj s m).1 with gk:=(cM (s.take 32).2.text.1).1.gk,gn:=(cM (s.take 32).2.text.1).1.gn,gt:=(cM (s.take 32).2.text.1).1.gt,gs:=(cM (s.take 32).2.text.1).1.gs,dk:=(cM (s.take 32).2.text.1).1.obj,pieces:=(cM (s.take 32).2.text.1).1.pieces }) (sl':={ sl with e:=v4 }) (by decide) mc.1 mc.2.2 (c76 X6.x.wf w4.obj.1)
  ⟨⟨X6.x.sl.a,X6.x.sl.b,X6.x.sl.c,X6.x.sl.d,S4.bA o46,X6.x.sl.f⟩,{ X6.x.wf with gk:=w4.gk,gn:=w4.gn,gt:=w4.gt,gs:=w4.gs,dk:=w4.obj,pieces:=w4.pieces }⟩ (off_e X6.off fv)
 obtain ⟨h8,e8,R8,k8,_⟩:=q72 X7.R
 have X8:=X7.rd R8 k8
 have b8:=num2_lt R3.byte
 have w8:=wrap_nat (n:=((s.take 32).2.text.2.num 2).1) (by omega)
 obtain ⟨h9,e9,X9,k9,_⟩:=X8.put (v := .int .i64 (((s.take 32).2.text.2.num 2).1:Int)) (o:=113) (m':={ (pObj s m).1 with gk:=(cM (s.take 32).2.text.1).1.gk,gn:=(cM (s.take 32).2.text.1).1.gn,gt:=(cM (s.take 32).2.text.1).1.gt,gs:=(cM (s.take 32).2.text.1).1.gs,dk:=(cM (s.take 32).2.text.1).1.obj,pieces:=(cM (s.take 32).2.text.1).1.pieces,cN:=((s.take 32).2.text.2.num 2).1 }) (sl':={ sl with e:=v4 }) (by decide) rfl rfl (c113 X8.x.wf _) ⟨⟨X8.x.sl.a,X8.x.sl.b,X8.x.sl.c,X8.x.sl.d,X8.x.sl.e,X8.x.sl.f⟩,{ X8.x.wf with cN:=i64_n (by omega) }⟩ X8.off
 obtain ⟨a10,c10,h10,e10,s10,g10,R10,k10,f10⟩:=q135 X9.R
 have X10:=X9.rd R10 k10
 have rl9:=X9.R.lt
 have o10 : ∀ b,slB (.slice a10 ((s.take 32).2.text.2.num 2).2.text.1.length c10)=some b → ¬b≤r:=fun b hb e=>by have:=slB_blk f10 b hb;omega
 obtain ⟨h11,e11,X11,k11,_⟩:=X10.put (v := .slice a10 ((s.take 32).2.text.2.num 2).2.text.1.length c10) (o:=114) (m':={ m with obj:=eH (s.take 32).1,gk:=(cM (s.take 32).2.text.1).1.gk,gn:=(cM (s.take 32).2.text.1).1.gn,gt:=(cM (s.take 32).2.text.1).1.gt,gs:=(cM (s.take 32).2.text.1).1.gs,dk:=(cM (s.take 32).2.text.1).1.obj,pieces:=(cM (s.take 32).2.text.1).1.pieces,cN:=((s.take 32).2.text.2.num 2).1,data:=((s.take 32).2.text.2.num 2).2.text.1 }) (sl':={ sl with e:=v4,f := .slice a10 ((s.take 32).2.text.2.num 2).2.text.1.length c10 }) (by decide) rfl rfl (set114 (aO.ok X10.x.wf) _) ⟨⟨X10.x.sl.a,X10.x.sl.b,X10.x.sl.c,X10.x.sl.d,X10.x.sl.e,sl_bytes s10⟩,{ X10.x.wf with data:=(aw s10).2.1 }⟩ (off_f X10.off o10)
 have K11:Kept h h11 (fun c=>c=r∨c=M):=((((((((kR k1).trans (kM k2)).trans (kR k3)).trans ((o4.trans o46).mono (fun _ _ h=>h.elim))).trans (kM k7)).trans (kR k8)).trans (kM k9)).trans (kR k10)).trans (kM k11)
 have key:CW 109 [ptr r 0,ptr M 0] h=some (.bool ((cM (s.take 32).2.text.1).2==0),h11):=by
  refine aF is109 X.R.g4 rfl ((t109_eq _ _ _ _).trans ?_)
  unfold t109
  simp -implicitDefEqProofs only [e1,bS,al,Nat.zero_add,Nat.add_zero,Nat.reduceAdd,e2,e3,e4,a8,a7,z5,e6,l6,e7,e8,bq,w8,e9,e10,e11,az,af,ak]
 unfold pPiece
 by_cases hz:(cM (s.take 32).2.text.1).2=0
 ·rw [if_pos hz]
  rw [hz] at key
  exact ⟨_,h11,key,X11,K11⟩
 ·rw [if_neg hz]
  rw [show ((cM (s.take 32).2.text.1).2==0)=false by simpa using hz] at key
  exact ⟨h11,key,K11⟩
end
end Go.Proofs.YtjghlcdidopcpaaGreatDoor

namespace Go.Proofs.YtjghlcdidopcpaaGreatDoor
open Go Go.Abs
attribute [local congr] aU
theorem Rd.take_e {s:Rd} {n:Nat} (h:(s.take n).2.e=0):s.e=0∧n≤s.l.length∧s.take n=(s.l.take n,⟨s.l.drop n,0⟩):=by
 by_cases he:s.e=0
 ·by_cases hn:n≤s.l.length
  ·exact ⟨he,hn,Rd.ef he hn⟩
  ·rw [Rd.eO he (by omega)] at h
   cases h
 ·rw [Rd.take_err he] at h
  exact absurd h he
theorem Rd.take_04 {s:Rd} {n:Nat} (h:s.e=0∨s.e=4):(s.take n).2.e=0∨(s.take n).2.e=4:=by
 by_cases he:s.e=0
 ·by_cases hn:n≤s.l.length
  ·rw [Rd.ef he hn];exact .inl rfl
  ·rw [Rd.eO he (by omega)];exact .inr rfl
 ·rw [Rd.take_err he];exact h
def cH (l:List Nat):Nat×Int:=
 if l.length<10 then (0,4) else if be (l.take 2)≠21335 then (0,5) else if be ((l.drop 2).take 1)≠1 then (0,80) else if 20000<be ((l.drop 6).take 4) then (0,3) else (be ((l.drop 6).take 4)+14,0)
theorem is31:bO Tryz.prog 31 Tryz.f31:=⟨by kernel_rfl,by kernel_rfl,by kernel_rfl,by kernel_rfl⟩
theorem slR_to {a:Option Addr} {n c hi:Nat} {h:aj} {l:List Nat} (g:cn a n c=true) (e:ay a n h=some l) (h2:hi≤n) :
  ∃ a' c',slR 1 (.slice a n c) none (some (aH hi)) none=some (.slice a' hi c')∧ay a' hi h=some (l.take hi)∧cn a' hi c'=true:=by
 obtain ⟨a',c',e1,e2,e3,_⟩:=slR_bytes (vl:=none) (vh:=some (aH hi)) (lo:=0) (hi:=hi) g e (by omega) h2 (by simp only [cB,aH];rw [if_pos (by have:=goodS_le g;omega)];rfl) rfl
 rw [Nat.sub_zero] at e1 e2 e3
 rw [List.drop_zero] at e2
 exact ⟨a',c',e1,e2,e3⟩
theorem slR_from {a:Option Addr} {n c lo:Nat} {h:aj} {l:List Nat} (g:cn a n c=true) (e:ay a n h=some l) (h2:lo≤n) :
  ∃ a' c',slR 1 (.slice a n c) (some (aH lo)) none none=some (.slice a' (n-lo) c')∧ay a' (n-lo) h=some (l.drop lo)∧cn a' (n-lo) c'=true:=by
 have hl:=(aw e).1
 obtain ⟨a',c',e1,e2,e3,_⟩:=slR_bytes (vl:=some (aH lo)) (vh:=none) (lo:=lo) (hi:=n) g e h2 (Nat.le_refl _) rfl (by simp only [cB,aH];rw [if_pos (by omega)];rfl)
 rw [List.take_of_length_le (by rw [List.length_drop];omega)] at e2
 exact ⟨a',c',e1,e2,e3⟩
theorem slR_mid {a:Option Addr} {n c lo hi:Nat} {h:aj} {l:List Nat} (g:cn a n c=true) (e:ay a n h=some l) (h1:lo≤hi) (h2:hi≤n) :
  ∃ a' c',slR 1 (.slice a n c) (some (aH lo)) (some (aH hi)) none=some (.slice a' (hi-lo) c')∧ay a' (hi-lo) h=some ((l.drop lo).take (hi-lo))∧cn a' (hi-lo) c'=true:=by
 obtain ⟨a',c',e1,e2,e3,_⟩:=slR_bytes (vl:=some (aH lo)) (vh:=some (aH hi)) (lo:=lo) (hi:=hi) g e h1 h2 (by simp only [cB,aH];rw [if_pos (by have:=goodS_le g;omega)];rfl) (by simp only [cB,aH];rw [if_pos (by omega)];rfl)
 exact ⟨a',c',e1,e2,e3⟩
theorem q31 {h:aj} (hG:4≤h.n0) {a:Option Addr} {n c:Nat} {l:List Nat} (hl:ay a n h=some l) (hg:cn a n c=true) (hn:n≤1000000) : ∃ h',CW 31 [.slice a n c] h=some (.tuple #[.int .i64 ((cH l).1:Int),.int .i64 (cH l).2],h')∧Old h h':=by
 obtain ⟨hlen,hby,_⟩:=aw hl
 have hln:bG (.slice a n c)=some (aH n):=rfl
 have hmn:gu false (aH n) [.int .i64 10]=some (aH (min n 10)):=by
  simp only [gu,aH]
  by_cases h0:n≤10
  ·rw [Nat.min_eq_left h0]
   by_cases h1:n=10
   ·subst h1;rfl
   ·have:((10:Int)<(n:Int))=False:=by simp;omega
    simp [this]
  ·rw [Nat.min_eq_right (by omega)]
   have:((10:Int)<(n:Int))=True:=by simp;omega
   simp [this]
 obtain ⟨a1,c1,z1,s1,g1⟩:=slR_to hg hl (Nat.min_le_left n 10)
 obtain ⟨r,h1,e1,R1,o1,lr⟩:=r32 hG (c:=c1) s1 (by omega)
 generalize hq:l.take (min n 10)=q at *
 have R1:fA h1 h.next r ⟨q,0⟩:=R1
 obtain ⟨h2,e2,R2,k2,_⟩:=q72 R1
 obtain ⟨h3,e3,R3,k3,_⟩:=q73 R2
 obtain ⟨a4,c4,h4,e4,_,_,R4,k4,_⟩:=q74 R3 (n:=3)
 have e4:CW 74 [ptr r 0,.int .i64 3] h3=_:=e4
 obtain ⟨h5,e5,R5,k5,_⟩:=q33 R4
 have e6:=q75 R5
 have O5:Old h h5:=o1.cE (((k2.trans k3).trans k4).trans k5) (fun d hd e=>by omega)
 have b5:=num4_lt R4.byte
 have w5:=wrap_nat b5
 by_cases c1:l.length<10
 ·have he:(((((⟨q,0⟩:Rd).take 2).2.take 1).2.take 3).2.take 4).2.e=4:=by
   subst hq
   have h04:=Rd.take_04 (n:=4) (Rd.take_04 (n:=3) (Rd.take_04 (n:=1) (Rd.take_04 (n:=2) (s:=(⟨l.take (min n 10),0⟩:Rd)) (.inl rfl))))
   rcases h04 with h0|h0
   ·exfalso
    obtain ⟨q1,q2,_⟩:=Rd.take_e h0
    obtain ⟨q3,q4,q5⟩:=Rd.take_e q1
    obtain ⟨q6,q7,q8⟩:=Rd.take_e q3
    obtain ⟨q9,q10,q11⟩:=Rd.take_e q6
    rw [q5] at q2
    rw [q8] at q2 q4
    rw [q11] at q2 q4 q7
    simp only [List.length_drop,List.length_take] at q2 q4 q7
    omega
   ·exact h0
  have he:(((((⟨q,0⟩:Rd).num 2).2.num 1).2.take 3).2.num 4).2.e=4:=he
  have q6:bin Tryz.prog .neq 35 (.int .i64 (((((⟨q,0⟩:Rd).num 2).2.num 1).2.take 3).2.num 4).2.e) (.int .i64 0)=some (.bool true):=by rw [he,ax];rfl
  refine ⟨h5,aF is31 hG rfl ((t31_eq _ _ _).trans ?_),O5⟩
  unfold t31 cH
  rw [if_pos c1]
  simp -implicitDefEqProofs only [hln,hmn,z1,e1,e2,e3,e4,e5,bq,w5,e6,q6,af,ak]
  rfl
 ·have hmin:min n 10=10:=Nat.min_eq_right (by omega)
  rw [hmin] at hq
  subst hq
  have hl10:(l.take 10).length=10:=by rw [List.length_take];omega
  have x1:(⟨l.take 10,0⟩:Rd).take 2=(l.take 2,⟨(l.take 10).drop 2,0⟩):=by
   rw [Rd.ef rfl (by rw [hl10];decide)]
   simp only [List.take_take]
   rfl
  have x2:(⟨(l.take 10).drop 2,0⟩:Rd).take 1=((l.drop 2).take 1,⟨(l.take 10).drop 3,0⟩):=by
   rw [Rd.ef rfl (by rw [List.length_drop,hl10];decide)]
   simp only [List.drop_drop,List.drop_take,List.take_take]
   rfl
  have x3:(⟨(l.take 10).drop 3,0⟩:Rd).take 3=((l.drop 3).take 3,⟨(l.take 10).drop 6,0⟩):=by
   rw [Rd.ef rfl (by rw [List.length_drop,hl10];decide)]
   simp only [List.drop_drop,List.drop_take,List.take_take]
   rfl
  have x4:(⟨(l.take 10).drop 6,0⟩:Rd).take 4=((l.drop 6).take 4,⟨(l.take 10).drop 10,0⟩):=by
   rw [Rd.ef rfl (by rw [List.length_drop,hl10];decide)]
   simp only [List.drop_drop,List.drop_take,List.take_take]
   rfl
  simp only [Rd.num,x1,x2,x3,x4] at e2 e3 e4 e5 e6 w5
  have q6:bin Tryz.prog .neq 35 (.int .i64 0) (.int .i64 0)=some (.bool false):=by rw [ax];rfl
  refine ⟨h5,aF is31 hG rfl ((t31_eq _ _ _).trans ?_),O5⟩
  unfold t31 cH
  rw [if_neg c1]
  by_cases c2:be (l.take 2)≠21335
  ·have q7:bin Tryz.prog .neq 65 (.int .u16 ((be (l.take 2):Nat):Int)) (.int .u16 21335)=some (.bool true):=by
    rw [ax]
    have:((be (l.take 2):Nat):Int)≠21335:=by omega
    simpa using this
   rw [if_pos c2]
   simp -implicitDefEqProofs only [hln,hmn,z1,e1,e2,e3,e4,e5,bq,w5,e6,q6,q7,af,ak]
   rfl
  have q7:bin Tryz.prog .neq 65 (.int .u16 ((be (l.take 2):Nat):Int)) (.int .u16 21335)=some (.bool false):=by
   rw [ax]
   have:((be (l.take 2):Nat):Int)=21335:=by omega
   simpa using this
  rw [if_neg c2]
  by_cases c3:be ((l.drop 2).take 1)≠1
  ·have q8:bin Tryz.prog .neq 5 (.int .u8 ((be ((l.drop 2).take 1):Nat):Int)) (.int .u8 1)=some (.bool true):=by
    rw [ax]
    have:((be ((l.drop 2).take 1):Nat):Int)≠1:=by omega
    simpa using this
   rw [if_pos c3]
   simp -implicitDefEqProofs only [hln,hmn,z1,e1,e2,e3,e4,e5,bq,w5,e6,q6,q7,q8,af,ak]
   rfl
  have q8:bin Tryz.prog .neq 5 (.int .u8 ((be ((l.drop 2).take 1):Nat):Int)) (.int .u8 1)=some (.bool false):=by
   rw [ax]
   have:((be ((l.drop 2).take 1):Nat):Int)=1:=by omega
   simpa using this
  rw [if_neg c3]
  by_cases c4:20000<be ((l.drop 6).take 4)
  ·have q9:bin Tryz.prog .gtr 3 (.int .i64 ((be ((l.drop 6).take 4):Nat):Int)) (.int .i64 20000)=some (.bool true):=by rw [aB,decide_eq_true (by omega)]
   rw [if_pos c4]
   simp -implicitDefEqProofs only [hln,hmn,z1,e1,e2,e3,e4,e5,bq,w5,e6,q6,q7,q8,q9,af,ak]
   rfl
  have q9:bin Tryz.prog .gtr 3 (.int .i64 ((be ((l.drop 6).take 4):Nat):Int)) (.int .i64 20000)=some (.bool false):=by rw [aB,decide_eq_false (by omega)]
  have q10:bin Tryz.prog .add 3 (.int .i64 ((be ((l.drop 6).take 4):Nat):Int)) (.int .i64 14)=some (.int .i64 ((be ((l.drop 6).take 4)+14:Nat):Int)):=by
   rw [bin_add,wrap_i64 (by omega) (by omega)]
   rfl
  rw [if_neg c4]
  simp -implicitDefEqProofs only [hln,hmn,z1,e1,e2,e3,e4,e5,bq,w5,e6,q6,q7,q8,q9,q10,af,ak]
def rBody (k:Nat) (s:Rd) (m:aO):Option (aO×Rd):=match k with
 | 1|2=>some (pPing s m)
 | 3=>some (pReq s m)
 | 4=>some (pSum s m)
 | 5=>pItems s m
 | 8|10=>pPiece s m
 | 11=>some (pStored s m)
 |_=>some (pObj s m)
theorem read_call {h:aj} {p r M:Nat} {s:Rd} {m:aO} {k:Nat} (hk:kindOk k=true) (X:MsR h p r M s m aZ) (hr:m.cp = []):DoneO h p r M (callA Tryz.prog CW (fnV (fmN k).2.2.2.2) [ptr r 0,ptr M 0] h) (rBody k s m):=by
 rcases kinds hk with rfl|rfl|rfl|rfl|rfl|rfl|rfl|rfl|rfl|rfl|rfl|rfl|rfl
 ·exact (bx CW 98 _ h).symm▸q98 X
 ·exact (bx CW 98 _ h).symm▸q98 X
 ·exact (bx CW 101 _ h).symm▸q101 X
 ·exact (bx CW 114 _ h).symm▸q114 X
 ·exact (bx CW 117 _ h).symm▸q117 X hr rfl
 ·exact (bx CW 105 _ h).symm▸q105 X
 ·exact (bx CW 105 _ h).symm▸q105 X
 ·exact (bx CW 109 _ h).symm▸q109 X
 ·exact (bx CW 105 _ h).symm▸q105 X
 ·exact (bx CW 109 _ h).symm▸q109 X
 ·exact (bx CW 121 _ h).symm▸q121 X
 ·exact (bx CW 105 _ h).symm▸q105 X
 ·exact (bx CW 105 _ h).symm▸q105 X
theorem pTab_len (n:Nat) : ∀ s,(pTab n s).1.length=n:=by
 induction n with
 |zero=>intro s;rfl
 |succ n ih=>intro s;simp [pTab,ih]
theorem pDigs_len (n:Nat) : ∀ s,(br n s).1.length=n:=by
 induction n with
 |zero=>intro s;rfl
 |succ n ih=>intro s;simp [br,ih]
theorem pRecs_len (n:Nat) : ∀ s q,fm n s=some q→q.1.length=n:=by
 induction n with
 |zero=>intro s q h;cases h;rfl
 |succ n ih=>
  intro s q h
  unfold fm at h
  split at h
  ·rw [Option.map_eq_some_iff] at h
   obtain ⟨q',h1,rfl⟩:=h
   simp [ih _ _ h1]
  ·cases h
theorem Rd.text_rest (s:Rd):s.text.2.l.length≤s.l.length:=by
 unfold Rd.text
 split
 ·split
  ·exact Nat.le_trans ((s.num 2).2.rest_len _) (s.rest_len 2)
  ·exact Nat.le_refl _
 ·exact Nat.le_refl _
theorem Rd.text_byte {s:Rd} (h : ∀ x∈s.l,x<256) : ∀ x∈s.text.2.l,x<256:=by
 unfold Rd.text
 split
 ·split
  ·exact (Rd.du (Rd.du h 2).2 _).2
  ·exact h
 ·exact h
theorem decM_len (l:List Nat) (hb:Bys l):(cM l).1.pieces.length≤255:=by
 unfold cM
 simp only
 split
 ·exact Nat.zero_le _
 split
 ·exact Nat.zero_le _
 split
 ·exact Nat.zero_le _
 split
 ·exact Nat.zero_le _
 ·show (br _ _).1.length≤255
  rw [pDigs_len]
  have h1:=(Rd.du (s:=(⟨l,0⟩:Rd)) hb 2).2
  have h2:=(Rd.du h1 1).2
  have h3:=(Rd.du h2 1).2
  have h4:(pHead l).2.2.2.1<256:=num1_lt h3
  omega
theorem Rd.text_bys {s:Rd} (h : ∀ x∈s.l,x<256):Bys s.text.1:=by
 unfold Rd.text
 split
 ·split
  ·exact (Rd.du (Rd.du h 2).2 _).1
  ·exact fun x hx=>by cases hx
 ·exact fun x hx=>by cases hx
theorem rBody_small {k:Nat} {s s':Rd} {m m':aO} (hs:s.l.length≤21000) (hb : ∀ x∈s.l,x<256) (h0:m.n.Small) (h:rBody k s m=some (m',s')):m'.n.Small:=by
 have tl : ∀ {q:Rd},(∀ x∈q.l,x<256)→(dR q).1.length≤1000000:=fun {q} hq=>by
  unfold dR
  rw [pTab_len]
  have:=num1_lt hq
  omega
 have b8:=(s.du hb 8).2
 have b81:=(Rd.du b8 1).2
 have t1:=Rd.text_small hs
 have t2:=Rd.text_small (Nat.le_trans s.text_rest hs)
 have b32:=(s.du hb 32).2
 have r32:=Nat.le_trans (s.rest_len 32) hs
 have P1:(pPing s m).1.n.Small:=⟨tl b81,h0.b,h0.c,h0.d,h0.e,h0.f⟩
 have P2:(pReq s m).1.n.Small:=⟨tl b81,h0.b,h0.c,h0.d,h0.e,h0.f⟩
 have P3:(pSum s m).1.n.Small:=⟨h0.a,Nat.le_trans t1 (by decide),Nat.le_trans t2 (by decide),h0.d,h0.e,h0.f⟩
 have P4:(pObj s m).1.n.Small:=⟨h0.a,h0.b,h0.c,h0.d,h0.e,h0.f⟩
 have P5:(pStored s m).1.n.Small:=⟨h0.a,h0.b,h0.c,h0.d,h0.e,h0.f⟩
 have P6:pItems s m=some (m',s')→m'.n.Small:=fun e=>by
  unfold pItems at e
  split at e
  ·rename_i q hq
   split at e
   ·cases e
    have hl:=pRecs_len _ _ _ hq
    have h4:=num2_lt (Rd.du (Rd.text_byte (Rd.text_byte hb)) 1).2
    refine ⟨h0.a,Nat.le_trans t1 (by decide),Nat.le_trans t2 (by decide),?_,h0.e,h0.f⟩
    show q.1.length≤1000000
    rw [hl]
    exact Nat.le_trans (Nat.le_of_lt h4) (by decide)
   ·cases e
  ·cases e
 have P7:pPiece s m=some (m',s')→m'.n.Small:=fun e=>by
  unfold pPiece at e
  split at e
  ·cases e
   refine ⟨h0.a,h0.b,h0.c,h0.d,Nat.le_trans (decM_len _ (Rd.text_bys b32)) (by decide),Nat.le_trans (Rd.text_small (Nat.le_trans (Rd.rest_len _ 2) (Nat.le_trans (Rd.text_rest _) r32))) (by decide)⟩
  ·cases e
 have some_eq : ∀ {q:aO×Rd},q.1.n.Small→some q=some (m',s')→m'.n.Small:=fun hq e=>by cases e;exact hq
 unfold rBody at h
 split at h
 ·exact some_eq P1 h
 ·exact some_eq P1 h
 ·exact some_eq P2 h
 ·exact some_eq P3 h
 ·exact P6 h
 ·exact P7 h
 ·exact P7 h
 ·exact some_eq P5 h
 ·exact some_eq P4 h
end Go.Proofs.YtjghlcdidopcpaaGreatDoor

namespace Go.Proofs.YtjghlcdidopcpaaGreatDoor
open Go Go.Abs
attribute [local congr] aU
def aO.hd (k f t:Nat):aO:={ aO.z with kind:=k,from_:=f,to_:=t }
def decF (l:List Nat):aO×Int:=
 if (cH l).2≠0 then (aO.z,(cH l).2) else
 if l.length<(cH l).1 then (aO.z,4) else
 if (cH l).1<l.length then (aO.z,3) else
 if be ((l.drop (l.length-4)).take 4)≠crcN (l.take (l.length-4)) then (aO.z,20) else
 if kindOk (l.getD 3 0)=false then (aO.z,2) else
 match rBody (l.getD 3 0) ⟨(l.drop 10).take (l.length-4-10),0⟩ (aO.hd (l.getD 3 0) (l.getD 4 0) (l.getD 5 0)) with
 |none=>(aO.z,5)
 |some q=>if q.2.fin≠0 then (aO.z,5) else if ft q.1=true then (q.1,0) else (aO.z,2)
theorem lenE_ge {l:List Nat} (h:(cH l).2=0):14≤(cH l).1∧(cH l).1≤20014:=by
 unfold cH at h ⊢
 split at h
 ·cases h
 split at h
 ·cases h
 split at h
 ·cases h
 split at h
 ·cases h
 rename_i c1 c2 c3 c4
 rw [if_neg c1,if_neg c2,if_neg c3,if_neg c4]
 exact ⟨Nat.le_add_left _ _,by show _+14≤_;omega⟩
theorem byte_rd {a:Option Addr} {n c i:Nat} {h:aj} {l:List Nat} (e:ay a n h=some l) (hi:i<n) : ∃ pt,bB 1 (.slice a n c) (aH i)=some pt ∧ ∀ h',Old h h'→aN pt h'=some (.int .u8 ((l.getD i 0:Nat):Int),h'):=by
 obtain ⟨b,off,s,k,rfl,hk,_,hc⟩:=(aw e).2.2 (by omega)
 refine ⟨ptr b (off+i),?_,fun h' o=>aV (Old.get o hk) (hc i hi) rfl⟩
 unfold bB
 simp only [aH]
 rw [if_pos (by omega),Int.toNat_natCast,Nat.mul_one]
theorem is13:bO Tryz.prog 13 Tryz.f13:=⟨by kernel_rfl,by kernel_rfl,by kernel_rfl,by kernel_rfl⟩
theorem results13:Tryz.f13.results.toList = [.cell 2 37,.tmp 3]:=by kernel_rfl
theorem z_has (h:aj):Has h aZ aO.z:=⟨⟨.nil _ _,.nil _ _,.nil _ _,.nil _ _,.nil _ _,.nil _ _⟩,aO.fZ⟩
theorem msg_end {h0 h:aj} {b:Nat} {k:dB} {m:aO} {sl:cR} (o:Old h0 h) (hb:h0.next≤b) (g:h.get b=some k) (hk:k.length=116) (x:Has h sl m) (of:sl.off (· = b)) : ∃ h',bw 116 (ptr b 0) (mv m sl) h=some (undef,h')∧bD 116 (ptr b 0) h'=some (mv m sl,h')∧Old h0 h'∧Has h' sl m:=by
 have hn:h.n0≤b:=by rw [o.n0];exact Nat.le_trans h0.aK hb
 have c:=cP x.sl (aO.ok x.wf)
 obtain ⟨h',e1,k1,g1,_,_⟩:=bJ (n:=116) g hn hk c.2.2 c.2.1
 exact ⟨h',e1,cA g1 c.2.2 c.1,Old.eF o k1 hb,x.bF k1 of⟩
set_option maxRecDepth 100000 in
set_option maxHeartbeats 4000000 in
theorem ew {h:aj} (hG:4≤h.n0) {a:Option Addr} {n c:Nat} {l:List Nat} (hl:ay a n h=some l) (hg:cn a n c=true) (hn:n≤1000000) : ∃ sl h',CW 13 [.slice a n c] h=some (.tuple #[mv (decF l).1 sl,.int .i64 (decF l).2],h')∧Has h' sl (decF l).1∧Old h h'∧sl.off (fun b=>b<h.next):=by
 obtain ⟨hlen,hby,_⟩:=aw hl
 have hln:bG (.slice a n c)=some (aH n):=rfl
 obtain ⟨h1,z1,o1,g1,n1⟩:=fresh Zl h
 have bz:bU Zl []=some (mv aO.z aZ):=rfl
 obtain ⟨h2,e2,o2⟩:=q31 (h:=h1) (by rw [o1.n0];exact hG) (c:=c) (Old.bytes o1 hl) hg hn
 have O2:=o1.trans o2
 have zend : ∀ {g:aj},Old h1 g → ∃ h',bw 116 (ptr h.next 0) (mv aO.z aZ) g=some (undef,h')∧bD 116 (ptr h.next 0) h'=some (mv aO.z aZ,h')∧Old h h'∧Has h' aZ aO.z:=fun o=>
  msg_end (o1.trans o) (Nat.le_refl _) (Old.get o g1) rfl (z_has _) (cT _)
 unfold decF
 by_cases c1:(cH l).2≠0
 ·rw [if_pos c1]
  have q1:bin Tryz.prog .neq 35 (.int .i64 (cH l).2) (.int .i64 0)=some (.bool true):=by rw [ax];simpa using c1
  obtain ⟨h',f1,f2,f3,f4⟩:=zend o2
  refine ⟨aZ,h',aF is13 hG rfl ((t13_eq _ _ _).trans ?_),f4,f3,cT _⟩
  unfold t13
  simp -implicitDefEqProofs only [z1,e2,a8,a7,q1,bz,f1,af,ak]
  exact bp results13 fq fp (show 2<92 by decide) (show 3<92 by decide) _ f2
 rw [if_neg c1]
 have c1':(cH l).2=0:=by simpa using c1
 rw [c1'] at e2
 obtain ⟨L1,L2⟩:=lenE_ge c1'
 generalize (cH l).1=L at *
 have q1:bin Tryz.prog .neq 35 (.int .i64 0) (.int .i64 0)=some (.bool false):=by rw [ax];rfl
 by_cases c2:l.length<L
 ·rw [if_pos c2]
  have q2:bin Tryz.prog .lss 3 (aH n) (.int .i64 (L:Int))=some (.bool true):=by rw [aC,decide_eq_true (by omega)]
  obtain ⟨h',f1,f2,f3,f4⟩:=zend o2
  refine ⟨aZ,h',aF is13 hG rfl ((t13_eq _ _ _).trans ?_),f4,f3,cT _⟩
  unfold t13
  simp -implicitDefEqProofs only [z1,e2,a8,a7,q1,hln,q2,bz,f1,af,ak]
  exact bp results13 fq fp (show 2<92 by decide) (show 3<92 by decide) _ f2
 rw [if_neg c2]
 have q2:bin Tryz.prog .lss 3 (aH n) (.int .i64 (L:Int))=some (.bool false):=by rw [aC,decide_eq_false (by omega)]
 by_cases c3:L<l.length
 ·rw [if_pos c3]
  have q3:bin Tryz.prog .gtr 3 (aH n) (.int .i64 (L:Int))=some (.bool true):=by rw [aB,decide_eq_true (by omega)]
  obtain ⟨h',f1,f2,f3,f4⟩:=zend o2
  refine ⟨aZ,h',aF is13 hG rfl ((t13_eq _ _ _).trans ?_),f4,f3,cT _⟩
  unfold t13
  simp -implicitDefEqProofs only [z1,e2,a8,a7,q1,hln,q2,q3,bz,f1,af,ak]
  exact bp results13 fq fp (show 2<92 by decide) (show 3<92 by decide) _ f2
 rw [if_neg c3]
 have q3:bin Tryz.prog .gtr 3 (aH n) (.int .i64 (L:Int))=some (.bool false):=by rw [aB,decide_eq_false (by omega)]
 obtain rfl:n=L:=by omega
 rw [hlen]
 have q4:bin Tryz.prog .sub 3 (.int .i64 (n:Int)) (.int .i64 4)=some (aH (n-4)):=sub3 (b:=4) (by omega) (by omega)
 have l2:=Old.bytes O2 hl
 obtain ⟨a3,c3',z3,s3,g3⟩:=slR_from hg l2 (Nat.sub_le n 4)
 rw [show n-(n-4)=4 by omega] at z3 s3 g3
 obtain ⟨r3,h3,e3,R3,o3,lr3⟩:=r32 (h:=h2) (by rw [O2.n0];exact hG) (c:=c3') s3 (by decide)
 have R3:fA h3 h2.next r3 ⟨l.drop (n-4),0⟩:=R3
 obtain ⟨h4,e4,R4,k4,_⟩:=q33 R3
 have O4':Old h1 h4:=(o2.trans o3).cE k4 (fun d hd e=>by have:=o2.next;omega)
 have O4:=o1.trans O4'
 obtain ⟨a5,c5,z5,s5,g5⟩:=slR_to hg (Old.bytes O4 hl) (Nat.sub_le n 4)
 obtain ⟨h5,e5,o5⟩:=r34 (h:=h4) R4.g4 (c:=c5) s5 (by omega)
 have O5':=O4'.trans o5
 have O5:=o1.trans O5'
 have hnum:(((⟨l.drop (n-4),0⟩:Rd).num 4).1)=be ((l.drop (n-4)).take 4):=by
  unfold Rd.num
  rw [Rd.ef rfl (by rw [List.length_drop];omega)]
 rw [hnum] at e4
 have crl:=crcN_lt (l:=l.take (n-4)) (fun x hx=>hby x (List.mem_of_mem_take hx))
 by_cases c4:be ((l.drop (n-4)).take 4)≠crcN (l.take (n-4))
 ·rw [if_pos c4]
  have q5:bin Tryz.prog .neq 50 (.int .u32 ((be ((l.drop (n-4)).take 4):Nat):Int)) (u32 (crcN (l.take (n-4))))=some (.bool true):=by
   rw [ax]
   have:((be ((l.drop (n-4)).take 4):Nat):Int)≠((crcN (l.take (n-4)):Nat):Int):=by omega
   simpa using this
  obtain ⟨h',f1,f2,f3,f4⟩:=zend O5'
  refine ⟨aZ,h',aF is13 hG rfl ((t13_eq _ _ _).trans ?_),f4,f3,cT _⟩
  unfold t13
  simp -implicitDefEqProofs only [z1,e2,a8,a7,q1,hln,q2,q3,q4,z3,e3,e4,z5,e5,q5,bz,f1,af,ak]
  exact bp results13 fq fp (show 2<92 by decide) (show 3<92 by decide) _ f2
 rw [if_neg c4]
 have q5:bin Tryz.prog .neq 50 (.int .u32 ((be ((l.drop (n-4)).take 4):Nat):Int)) (u32 (crcN (l.take (n-4))))=some (.bool false):=by
  rw [ax]
  have:((be ((l.drop (n-4)).take 4):Nat):Int)=((crcN (l.take (n-4)):Nat):Int):=by
   have:=Decidable.not_not.1 c4
   omega
  simpa using this
 have gd : ∀ i,i<n→l.getD i 0<256:=fun i hi=>by
  rw [List.getD_eq_getElem?_getD,List.getElem?_eq_getElem (by omega)]
  exact hby _ (List.getElem_mem _)
 obtain ⟨t3,j3,b3⟩:=byte_rd (c:=c) (i:=3) (Old.bytes O5 hl) (by omega)
 obtain ⟨t4,j4,b4⟩:=byte_rd (c:=c) (i:=4) (Old.bytes O5 hl) (by omega)
 obtain ⟨t5,j5,b5⟩:=byte_rd (c:=c) (i:=5) (Old.bytes O5 hl) (by omega)
 have j3:bB 1 (.slice a n c) (.int .i64 3)=some t3:=j3
 have j4:bB 1 (.slice a n c) (.int .i64 4)=some t4:=j4
 have j5:bB 1 (.slice a n c) (.int .i64 5)=some t5:=j5
 have b3:=b3 h5 (Kept.refl _ _)
 have b4:=b4 h5 (Kept.refl _ _)
 have b5:=b5 h5 (Kept.refl _ _)
 have y3:=gd 3 (by omega)
 have y4:=gd 4 (by omega)
 have y5:=gd 5 (by omega)
 generalize l.getD 3 0=k at *
 generalize l.getD 4 0=fr at *
 generalize l.getD 5 0=to at *
 have w4:=wrap_nat (n:=fr) (by omega)
 have w5:=wrap_nat (n:=to) (by omega)
 have bm:bU Zl [(0,1,.int .u8 (k:Int)),(1,1,.int .i64 (fr:Int)),(2,1,.int .i64 (to:Int))]=some (mv (aO.hd k fr to) aZ):=rfl
 have wm:(aO.hd k fr to).Wf:={ aO.fZ with kind:=y3,from_:=i64_n (by omega),to_:=i64_n (by omega) }
 obtain ⟨h6,z6,o6,g6,n6⟩:=fresh Zl h5
 have p6:h6.n0≤h5.next:=by rw [o6.n0];exact h5.aK
 have xh:Has h6 aZ (aO.hd k fr to):=⟨⟨.nil _ _,.nil _ _,.nil _ _,.nil _ _,.nil _ _,.nil _ _⟩,wm⟩
 have ch:=cP xh.sl (aO.ok wm)
 obtain ⟨h7,e7,k7,g7,p7,n7⟩:=bJ (n:=116) (k':=(aO.hd k fr to).d.cells aZ) g6 p6 rfl ch.2.2 ch.2.1
 have o57:Old h5 h7:=Old.eF o6 k7 (Nat.le_refl _)
 have O7':=O5'.trans o57
 have O7:=o1.trans O7'
 have l7:aN (ptr h5.next 0) h7=some (.int .u8 (k:Int),h7):=aV g7 rfl
 obtain ⟨h8,e8,o8⟩:=r35 (h:=h7) (by rw [O7.n0];exact hG) y3
 obtain ⟨h9,z9,o9,g9,n9⟩:=fresh [(.string ⟨#[]⟩),.nilFunc,.nilFunc,.nilFunc,.nilFunc] h8
 have p9:h9.n0≤h8.next:=by rw [o9.n0];exact h8.aK
 have cf:=fmC_ok k
 obtain ⟨h10,e10,k10,g10,_,n10⟩:=bJ (n:=5) (k':=fmC k) g9 p9 rfl cf.2.2 cf.2.1
 have o710:Old h7 h10:=o8.trans (Old.eF o9 k10 (Nat.le_refl _))
 have O10':=O7'.trans o710
 have O10:=o1.trans O10'
 cases c5:kindOk k with
 |false=>
  rw [if_pos rfl]
  rw [c5] at e8
  obtain ⟨h',f1,f2,f3,f4⟩:=zend O10'
  refine ⟨aZ,h',aF is13 hG rfl ((t13_eq _ _ _).trans ?_),f4,f3,cT _⟩
  unfold t13
  simp -implicitDefEqProofs only [z1,e2,a8,a7,q1,hln,q2,q3,q4,z3,e3,e4,z5,e5,q5,j3,b3,j4,b4,j5,b5,bq,w4,w5,bm,z6,e7,l7,e8,z9,e10,av,al,Nat.zero_add,af,ak,Bool.not_false,bz,f1]
  exact bp results13 fq fp (show 2<92 by decide) (show 3<92 by decide) _ f2
 |true=>
 rw [if_neg (by decide)]
 rw [c5] at e8
 obtain ⟨a11,c11,z11,s11,g11⟩:=slR_mid (lo:=10) (hi:=n-4) hg (Old.bytes O10 hl) (by omega) (Nat.sub_le n 4)
 have z11:slR 1 (.slice a n c) (some (.int .i64 10)) (some (aH (n-4))) none=some (.slice a11 (n-4-10) c11):=z11
 obtain ⟨r,h11,e11,R11,o11,lr⟩:=r32 (h:=h10) (by rw [O10.n0];exact hG) (c:=c11) s11 (by omega)
 have R11:fA h11 h10.next r ⟨(l.drop 10).take (n-4-10),0⟩:=R11
 have lt5:h5.next<h10.next:=by
  have:=(o57.trans o710).next
  have:=Nat.le_trans o57.next o710.next
  have m7:h7.next=h5.next+1:=by omega
  have:=o710.next
  omega
 have X11:MsR h11 h10.next r h5.next ⟨(l.drop 10).take (n-4-10),0⟩ (aO.hd k fr to) aZ:=by
  refine ⟨R11,Old.get o11 (Old.get o710 g7),⟨⟨.nil _ _,.nil _ _,.nil _ _,.nil _ _,.nil _ _,.nil _ _⟩,wm⟩,cT _,lt5,?_⟩
  rw [o11.n0,o710.n0];exact p7
 have O11':=O10'.trans o11
 have O11:=o1.trans O11'
 have f11:aN (ptr h8.next 4) h11=some (fnV (fmN k).2.2.2.2,h11):=aV (Old.get o11 g10) rfl (by unfold fnV;split<;>rfl)
 have D:=read_call c5 X11 rfl
 have hrl:h1.next≤h5.next:=O5'.next
 have hMr : ∀ d,d<h1.next → ¬(d=r∨d=h5.next):=fun d hd e=>by omega
 have hsl:=R11.len
 have hsb:=R11.byte
 unfold DoneO at D
 cases hq:rBody k ⟨(l.drop 10).take (n-4-10),0⟩ (aO.hd k fr to) with
 |none=>
  rw [hq] at D
  obtain ⟨h12,e12,k12⟩:=D
  have O12':Old h1 h12:=O11'.cE k12 (fun d hd e=>hMr d hd e)
  obtain ⟨h',f1,f2,f3,f4⟩:=zend O12'
  refine ⟨aZ,h',aF is13 hG rfl ((t13_eq _ _ _).trans ?_),f4,f3,cT _⟩
  unfold t13
  simp -implicitDefEqProofs only [z1,e2,a8,a7,q1,hln,q2,q3,q4,z3,e3,e4,z5,e5,q5,j3,b3,j4,b4,j5,b5,bq,w4,w5,bm,z6,e7,l7,e8,z9,e10,av,al,Nat.zero_add,af,ak,Bool.not_true,z11,e11,f11,e12,Bool.not_false,ao,fs,sf,beq_self_eq_true,ai,ah,Bool.false_eq_true,if_false,if_true,bz,f1]
  exact bp results13 fq fp (show 2<92 by decide) (show 3<92 by decide) _ f2
 |some q=>
  rw [hq] at D
  obtain ⟨sl,h12,e12,X12,k12⟩:=D
  have O12':Old h1 h12:=O11'.cE k12 (fun d hd e=>hMr d hd e)
  have e36:=q36 X12.R
  simp only
  by_cases c6:q.2.fin≠0
  ·rw [if_pos c6]
   have q6:bin Tryz.prog .neq 35 (.int .i64 q.2.fin) (.int .i64 0)=some (.bool true):=by rw [ax];simpa using c6
   obtain ⟨h',f1,f2,f3,f4⟩:=zend O12'
   refine ⟨aZ,h',aF is13 hG rfl ((t13_eq _ _ _).trans ?_),f4,f3,cT _⟩
   unfold t13
   simp -implicitDefEqProofs only [z1,e2,a8,a7,q1,hln,q2,q3,q4,z3,e3,e4,z5,e5,q5,j3,b3,j4,b4,j5,b5,bq,w4,w5,bm,z6,e7,l7,e8,z9,e10,av,al,Nat.zero_add,af,ak,Bool.not_true,z11,e11,f11,e12,ao,fs,sf,beq_self_eq_true,ai,ah,Bool.false_eq_true,if_false,if_true,e36,q6,bz,f1]
   exact bp results13 fq fp (show 2<92 by decide) (show 3<92 by decide) _ f2
  rw [if_neg c6]
  have q6:bin Tryz.prog .neq 35 (.int .i64 q.2.fin) (.int .i64 0)=some (.bool false):=by rw [ax];simpa using c6
  have A12:=m_ld X12.x X12.g
  have sm:q.1.n.Small:=rBody_small hsl hsb ⟨Nat.zero_le _,Nat.zero_le _,Nat.zero_le _,Nat.zero_le _,Nat.zero_le _,Nat.zero_le _⟩ hq
  obtain ⟨h13,e13,o13⟩:=r19 X12.R.g4 X12.x sm
  have O13':=O12'.trans o13
  cases c7:ft q.1 with
  |false=>
   rw [if_neg (by decide)]
   rw [c7] at e13
   have q7:bin Tryz.prog .neq 35 (.int .i64 2) (.int .i64 0)=some (.bool true):=by rw [ax];rfl
   obtain ⟨h',f1,f2,f3,f4⟩:=zend O13'
   refine ⟨aZ,h',aF is13 hG rfl ((t13_eq _ _ _).trans ?_),f4,f3,cT _⟩
   unfold t13
   simp -implicitDefEqProofs only [z1,e2,a8,a7,q1,hln,q2,q3,q4,z3,e3,e4,z5,e5,q5,j3,b3,j4,b4,j5,b5,bq,w4,w5,bm,z6,e7,l7,e8,z9,e10,av,al,Nat.zero_add,af,ak,Bool.not_true,z11,e11,f11,e12,ao,fs,sf,beq_self_eq_true,ai,ah,Bool.false_eq_true,if_false,if_true,e36,q6,A12.all,e13,q7,bz,f1]
   exact bp results13 fq fp (show 2<92 by decide) (show 3<92 by decide) _ f2
  |true=>
   rw [if_pos rfl]
   rw [c7] at e13
   have x13:=X12.x.bA o13
   have A13:=m_ld X12.x (Old.get o13 X12.g)
   have lr10:h1.next≤r:=Nat.le_trans O10'.next lr
   obtain ⟨h',f1,f2,f3,f4⟩:=msg_end (b:=h.next) (o1.trans O13') (Nat.le_refl _) (Old.get O13' g1) rfl x13 (fun v hv b hb e=>X12.off v hv b hb (by omega))
   refine ⟨sl,h',aF is13 hG rfl ((t13_eq _ _ _).trans ?_),f4,f3,fun v hv b hb e=>X12.off v hv b hb (by omega)⟩
   unfold t13
   simp -implicitDefEqProofs only [z1,e2,a8,a7,q1,hln,q2,q3,q4,z3,e3,e4,z5,e5,q5,j3,b3,j4,b4,j5,b5,bq,w4,w5,bm,z6,e7,l7,e8,z9,e10,av,al,Nat.zero_add,af,ak,Bool.not_true,z11,e11,f11,e12,ao,fs,sf,beq_self_eq_true,ai,ah,Bool.false_eq_true,if_false,if_true,e36,q6,A12.all,e13,if_true,q1,A13.all,f1]
   exact bp results13 fq fp (show 2<92 by decide) (show 3<92 by decide) _ f2
end Go.Proofs.YtjghlcdidopcpaaGreatDoor

namespace Go.Proofs.YtjghlcdidopcpaaGreatDoor
open Go Go.Abs
theorem be_cons (x:Nat) : ∀ l:List Nat,be (x::l)=x*256^l.length+be l:=by
 have key : ∀ (l:List Nat) (a:Nat),l.foldl (fun v x=>v*256+x) a=a*256^l.length+be l:=by
  intro l
  induction l with
  |nil=>intro a;simp [be]
  |cons y l ih=>
   intro a
   have e1:be (y::l)=l.foldl (fun v x=>v*256+x) (0*256+y):=rfl
   rw [List.foldl_cons,ih,e1,ih,List.length_cons,Nat.pow_succ,Nat.add_mul,Nat.zero_mul,Nat.zero_add,Nat.mul_assoc,Nat.mul_comm 256,Nat.add_assoc]
 intro l
 have e1:be (x::l)=l.foldl (fun v x=>v*256+x) (0*256+x):=rfl
 rw [e1,key,Nat.zero_mul,Nat.zero_add]
theorem Bys.take {l:List Nat} (h:Bys l) (n:Nat):Bys (l.take n):=fun x hx=>h x (List.mem_of_mem_take hx)
theorem Bys.drop {l:List Nat} (h:Bys l) (n:Nat):Bys (l.drop n):=fun x hx=>h x (List.mem_of_mem_drop hx)
theorem Bys.left {a b:List Nat} (h:Bys (a++b)):Bys a:=fun x hx=>h x (List.mem_append_left _ hx)
theorem Bys.right {a b:List Nat} (h:Bys (a++b)):Bys b:=fun x hx=>h x (List.mem_append_right _ hx)
theorem pad_full {m:List Nat} (h:m.length=32):eH m=m:=by
 unfold eH
 rw [h]
 exact List.append_nil m
def aO.man' (m:aO):dp:=⟨m.gk,m.gn,m.gt,m.gs,m.dk,m.pieces⟩
end Go.Proofs.YtjghlcdidopcpaaGreatDoor

namespace Go.Proofs.YtjghlcdidopcpaaGreatDoor
open Go Go.Abs
section
variable {m:aO} (w:m.Wf)
include w
end
end Go.Proofs.YtjghlcdidopcpaaGreatDoor

namespace Go.Proofs.YtjghlcdidopcpaaGreatDoor
open Go Go.Abs
theorem drop_one {l:List Nat} {i:Nat} (h:i<l.length):(l.drop i).take 1 = [l.getD i 0]:=by
 rw [List.getD_eq_getElem?_getD,List.getElem?_eq_getElem h,List.drop_eq_getElem_cons h]
 rfl
end Go.Proofs.YtjghlcdidopcpaaGreatDoor

namespace Go.Proofs.YtjghlcdidopcpaaGreatDoor
open Go Go.Abs
end Go.Proofs.YtjghlcdidopcpaaGreatDoor

namespace Go.Proofs.YtjghlcdidopcpaaGreatDoor
open Go Go.Abs
attribute [local congr] aU
section
variable {h:aj} {s:cR} {m:aO} (hG:4≤h.n0) (x:Has h s m)
include hG x
theorem r15m {s':cR} {m':aO} (x':Has h s' m') (sm:m.n.Small) : ∃ h',CW 15 [mv m s,mv m' s'] h=some (.bool (decide (m=m')),h')∧Old h h':=by
 obtain ⟨r,h',e,hr,o⟩:=r15 hG x.sl x'.sl (aO.ok x.wf) (aO.ok x'.wf) sm
 refine ⟨h',?_,o⟩
 have:r=decide (m=m'):=by
  by_cases q:m=m'
  ·rw [decide_eq_true q,hr.2 (by rw [q])]
  ·rw [decide_eq_false q]
   cases r with
   |false=>rfl
   |true=>exact absurd (aO.d_inj x.wf x'.wf (hr.1 rfl)) q
 rw [←this];exact e
end
def Zm:dB:=Zl
theorem newZ (h:aj):cL Zl h=some (ptr h.next 0,h.alloc Zm):=rfl
theorem var_m {h:aj} {s:cR} {m:aO} (x:Has h s m) : ∃ h2,bw 116 (ptr h.next 0) (mv m s) (h.alloc Zm)=some (undef,h2)∧Old h h2∧h2.get h.next=some (m.d.cells s)∧h2.next=h.next+1:=by
 have c:=cP x.sl (aO.ok x.wf)
 exact one_new h (show Zm.length=116 by rfl) c.2.2 c.2.1
theorem own0 (h:aj):OwnB (h.alloc []) h.next (.slice (some ⟨h.next,0,none⟩) 0 0) []:=⟨dJ.empty _ (Nat.le_refl _),by simp⟩
theorem app_copy {h:aj} {a:Option Addr} {n c:Nat} {l:List Nat} (hl:ay a n h=some l) (hn:n≤1000000) :
  ∃ a' c' h',cl 1 1 (.slice (some ⟨h.next,0,none⟩) 0 0) (.slice a n c) (h.alloc [])=some (.slice a' n c',h')∧ay a' n h'=some l∧cn a' n c'=true∧Old h h'∧(∀ y,a'=some y→h.next≤y.block):=by
 have hlen:=(aw hl).1
 have o1:Old h (h.alloc []):=Kept.alloc _ _ _
 obtain ⟨v,h2,e1,O,k,_⟩:=append_ownB (own0 h) (by rw [o1.n0];exact h.aK) (by rw [aj.dw];omega) (c:=c) (Old.bytes o1 hl) (by simp;omega)
 obtain ⟨a',c',rfl,b1,b2,b3,_⟩:=O.bytes
 rw [List.nil_append] at e1 b1 b2
 rw [hlen] at e1 b1 b2
 exact ⟨a',c',h2,e1,b1,b2,o1.cE k (fun d hd e=>by have e:some h.next=some d:=e;cases e;omega),b3⟩
theorem aO.z_small:aO.z.n.Small:=⟨Nat.zero_le _,Nat.zero_le _,Nat.zero_le _,Nat.zero_le _,Nat.zero_le _,Nat.zero_le _⟩
theorem decF_small {l:List Nat} (hb:Bys l):(decF l).1.n.Small:=by
 unfold decF
 split
 ·exact aO.z_small
 split
 ·exact aO.z_small
 split
 ·exact aO.z_small
 split
 ·exact aO.z_small
 split
 ·exact aO.z_small
 rename_i c1 c2 c3 _ _
 have hL:=lenE_ge (Decidable.not_not.1 c1)
 split
 ·exact aO.z_small
 rename_i q hq
 split
 ·exact aO.z_small
 split
 ·exact rBody_small (s:=⟨(l.drop 10).take (l.length-4-10),0⟩) (by show (List.take _ _).length≤_;rw [List.length_take];omega) (fun y hy=>hb y (List.mem_of_mem_drop (List.mem_of_mem_take hy))) ⟨Nat.zero_le _,Nat.zero_le _,Nat.zero_le _,Nat.zero_le _,Nat.zero_le _,Nat.zero_le _⟩ hq
 ·exact aO.z_small
end Go.Proofs.YtjghlcdidopcpaaGreatDoor

