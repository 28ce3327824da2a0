/-
  A part of the proof, spaces and names shortened by a program (a claim may hold 1,500,000 bytes).
  Conditions: as each theorem states.
-/
import Derived.Test.YtjghlcdidopcpaaGreatDoorG8
namespace Go.Proofs.YtjghlcdidopcpaaGreatDoor
open Go Go.Abs
attribute [local congr] aP
theorem sf:(some true==some false)=false:=rfl
theorem fs:(some false==some true)=false:=rfl
theorem eqI (t:TypeId) (k:IntKind) (a b:Int) : ∃ r:Bool,(r=true↔a=b)∧bin Tryz.prog .eql t (.int k a) (.int k b)=some (.bool r)∧bin Tryz.prog .neq t (.int k a) (.int k b)=some (.bool !r):=
 ⟨a==b,beq_iff_eq,ay ..,aA ..⟩
theorem eqB (a b:Bool) : ∃ r:Bool,(r=true↔a=b)∧bin Tryz.prog .eql 4 (.bool a) (.bool b)=some (.bool r)∧bin Tryz.prog .neq 4 (.bool a) (.bool b)=some (.bool !r):=by
 refine ⟨a==b,beq_iff_eq,?_,?_⟩
 ·cases a<;>cases b<;>kernel_rfl
 ·cases a<;>cases b<;>kernel_rfl
theorem dn.first {h:ak} {ks:List Kd} {v:Value} {n:Nat} {cs:List Value} (x:dn h ks v n cs) (hz:0<ks.length):cj ks.length n v h=some cs:=by
 have hl:=x.cells
 have hall:=x.typed.all
 obtain ⟨a,c,rfl,h1,h2,h3⟩:=x
 by_cases hn:n=0
 ·subst hn
  have:cs = []:=List.length_eq_zero_iff.1 (by omega)
  subst this
  cases a with
  |none=>rfl
  |some y=>
   unfold cj
   simp
 ·obtain ⟨b,off,s,k,rfl,h4,h5,h6⟩:=h3 (by omega)
  have:n*ks.length≠0:=Nat.mul_ne_zero hn (by omega)
  unfold cj
  simp only [h4,h6,if_neg this,if_pos (And.intro h5 hall.1)]
def bQ (l:List Nat):ByteArray:=⟨(l.map UInt8.ofNat).toArray⟩
def u8v (n:Nat):Value := .int .u8 (n:Int)
theorem mapM_asByte : ∀ {l:List Nat},(l.map u8v).mapM asByte=some (l.map UInt8.ofNat)
 | []=>rfl
 |n::l=>by
  have ih:=mapM_asByte (l:=l)
  rw [List.map_cons,List.mapM_cons,ih]
  rfl
theorem strOf_inj {a b:List Nat} (ha : ∀ x∈a,x<256) (hb : ∀ x∈b,x<256):((bQ a).toList==(bQ b).toList)=decide (a=b):=by
 have hl : ∀ l:List Nat,(bQ l).toList=l.map UInt8.ofNat:=fun l=>Go.ByteArray.toList_mk _
 have hinj : ∀ a b:List Nat,(∀ x∈a,x<256)→(∀ x∈b,x<256)→a.map UInt8.ofNat=b.map UInt8.ofNat→a=b:=by
  intro a
  induction a with
  |nil=>intro b _ _ h;simpa using h.symm
  |cons x a ih=>
   intro b ha hb h
   match b with
   | []=>simp at h
   |y::b=>
    rw [List.map_cons,List.map_cons,List.cons.injEq] at h
    have hx:=ha x List.mem_cons_self
    have hy:=hb y List.mem_cons_self
    have e:x=y:=by
     have:=congrArg UInt8.toNat h.1
     rw [UInt8.toNat_ofNat',UInt8.toNat_ofNat'] at this
     omega
    rw [e,ih b (fun z hz=>ha z (List.mem_cons_of_mem _ hz)) (fun z hz=>hb z (List.mem_cons_of_mem _ hz)) h.2]
 rw [hl,hl]
 by_cases e:a=b
 ·rw [decide_eq_true e,e];exact beq_self_eq_true _
 ·rw [decide_eq_false e,beq_eq_false_iff_ne]
  exact fun h=>e (hinj a b ha hb h)
theorem bytes_of {n:Nat} {cs:List Value} (h:TypedN [.u8] n cs) : ∃ l:List Nat,cs=l.map u8v ∧ ∀ x∈l,x<256:=by
 have key : ∀ v∈cs,∃ m:Nat,v=u8v m∧m<256:=fun v hv=>by
  obtain ⟨j,hj⟩:=List.mem_iff_getElem?.1 hv
  have hj2:=(List.getElem?_eq_some_iff.1 hj).1
  rw [h.1] at hj2
  have hl1:([Kd.u8]:List Kd).length=1:=rfl
  rw [hl1,Nat.mul_one] at hj2
  obtain ⟨w,hw,m,rfl,hm⟩:=(h.2 j hj2).2 0 .u8 rfl
  rw [hl1,Nat.mul_one,List.getElem?_take,if_pos (by omega),List.getElem?_drop,Nat.add_zero,hj] at hw
  exact ⟨m,Option.some.inj hw,hm⟩
 clear h
 induction cs with
 |nil=>exact ⟨[],rfl,fun x hx=>by cases hx⟩
 |cons v cs ih=>
  obtain ⟨m,rfl,hm⟩:=key v List.mem_cons_self
  obtain ⟨l,rfl,hl⟩:=ih (fun w hw=>key w (List.mem_cons_of_mem _ hw))
  exact ⟨m::l,rfl,fun x hx=>by
   rcases List.mem_cons.1 hx with rfl|hx
   ·exact hm
   ·exact hl x hx⟩
theorem cv_str {h:ak} {v:Value} {n:Nat} {l:List Nat} (x:dn h [.u8] v n (l.map u8v)):cvBS v h=some (.string (bQ l),h):=by
 have hf:=x.first (by decide)
 obtain ⟨a,c,rfl,_⟩:=x
 have hf:cj 1 n (.slice a n c) h=some (l.map u8v):=hf
 unfold cvBS bsR
 simp only [hf,mapM_asByte]
 rfl
theorem str_eq {h:ak} {v w:Value} {n m:Nat} {cs ds:List Value} (x:dn h [.u8] v n cs) (y:dn h [.u8] w m ds) : ∃ (r:Bool) (a b:Value),(r=true↔cs=ds)∧(∀ h',Old h h'→cvBS v h'=some (a,h')∧cvBS w h'=some (b,h'))∧bin Tryz.prog .eql 9 a b=some (.bool r)∧bin Tryz.prog .neq 9 a b=some (.bool !r):=by
 obtain ⟨l,rfl,hl⟩:=bytes_of x.typed
 obtain ⟨l',rfl,hl'⟩:=bytes_of y.typed
 refine ⟨decide (l=l'),.string (bQ l),.string (bQ l'),?_,fun h' o=>⟨cv_str (x.bm o),cv_str (y.bm o)⟩,?_,?_⟩
 ·rw [decide_eq_true_eq]
  refine ⟨fun e=>by rw [e],fun e => ?_⟩
  have hi : ∀ a b:Nat,u8v a=u8v b→a=b:=fun a b e=>by
   unfold u8v at e
   simp at e
   omega
  exact (List.map_inj_right (fun a b e=>hi a b e)).1 e
 ·rw [←strOf_inj hl hl'];rfl
 ·rw [←strOf_inj hl hl'];rfl
def ManEq (M M':bD):Prop:=M.gk=M'.gk∧M.gn=M'.gn∧M.gt=M'.gt∧M.gs=M'.gs∧M.cp=M'.cp∧M.pieces=M'.pieces
theorem is56:bB Tryz.prog 56 Tryz.f56:=⟨by kernel_rfl,by kernel_rfl,by kernel_rfl,by kernel_rfl⟩
theorem is45:bB Tryz.prog 45 Tryz.f45:=⟨by kernel_rfl,by kernel_rfl,by kernel_rfl,by kernel_rfl⟩
theorem is22:bB Tryz.prog 22 Tryz.f22:=⟨by kernel_rfl,by kernel_rfl,by kernel_rfl,by kernel_rfl⟩
theorem is15:bB Tryz.prog 15 Tryz.f15:=⟨by kernel_rfl,by kernel_rfl,by kernel_rfl,by kernel_rfl⟩
theorem results45:Tryz.f45.results.toList = [.tmp 4]:=by kernel_rfl
theorem b45_exit (C:av) (e:Env) (h:ak):b45_6 C 0 e h=k45_4 C e h:=rfl
def manInv (h0:ak) (p q n:Nat) (cs ds:List Value) (k:Nat) (y:Nat→Value) (g:ak):Prop:=
 ∃ i,i+k=n∧y 2=ptr p 0∧y 3=ptr q 0∧y 5=aN i∧g=h0 ∧ ∀ j,j<i→el 32 cs j=el 32 ds j
theorem round45 {h0:ak} {p q:Nat} {s s':cP} {M M':bD} {n:Nat} (A:ManLd h0 p s M) (B:ManLd h0 q s' M') (x:dn h0 fF s.e n M.pieces) (y':dn h0 fF s'.e n M'.pieces) (hn:n≤1000000) :
  ∀ k y g,manInv h0 p q n M.pieces M'.pieces k y g→dw 66 (manInv h0 p q n M.pieces M'.pieces) (eqFin h0 32 n M.pieces M'.pieces) k (t45l45_11010 CW y g):=by
 rintro k y g ⟨i,hik,y2,y3,y5,rfl,he⟩
 have hl:=x.len
 unfold t45l45_11010
 by_cases hi:i<n
 ·obtain ⟨b,o,qq,_,a1,_,_,_,a2,a3⟩:=x.at hi
  obtain ⟨b',o',q',_,b1,_,_,_,b2,b3⟩:=y'.at hi
  have a1:cD 32 s.e (aN i)=some (ptr b (o+i*32)):=a1
  have b1:cD 32 s'.e (aN i)=some (ptr b' (o'+i*32)):=b1
  have a2:bP 32 (ptr b (o+i*32)) g=some (.agg (el 32 M.pieces i).toArray,g):=a2
  have b2:bP 32 (ptr b' (o'+i*32)) g=some (.agg (el 32 M'.pieces i).toArray,g):=b2
  obtain ⟨r,r1,_,r2⟩:=eq28 _ _ a3 b3
  have r2:bin Tryz.prog .neq 28 (.agg (el 32 M.pieces i).toArray) (.agg (el 32 M'.pieces i).toArray)=some (.bool !r):=r2
  have r1:r=true↔el 32 M.pieces i=el 32 M'.pieces i:=r1
  simp -implicitDefEqProofs only [y2,y3,y5,ao,Nat.zero_add,A.dP,B.dP,hl,dI,ah,aq,decide_eq_true hi,a1,a2,b1,b2,r2]
  cases r with
  |true=>
   simp -implicitDefEqProofs only [Bool.not_true,ah,aq,eT (show i+1≤9223372036854775807 by omega)]
   exact dw.next (k-1) (by omega) ⟨i+1,by omega,y2,y3,rfl,rfl,snoc_el he (r1.1 rfl)⟩
  |false=>
   simp -implicitDefEqProofs only [Bool.not_false]
   exact dw.ret ⟨rfl,.inl ⟨rfl,rfl,fun h=>by
    rw [h] at r1
    exact absurd (r1.2 rfl) (by decide)⟩⟩
 ·simp -implicitDefEqProofs only [y2,y5,ao,Nat.zero_add,A.dP,hl,dI,ah,aq,decide_eq_false hi]
  exact dw.out 0 ⟨rfl,.inr ⟨rfl,fun j hj=>he j (by omega)⟩⟩
section
variable {h:ak} {s s':cP} {n n':N6} {M M':bD} (hG:4≤h.n0) (x:SlV h s n M) (x':SlV h s' n' M') (ok:M.Ok) (ok':M'.Ok) (sm:n.Small)
include hG x x' ok ok' sm
theorem r56 : ∃ (r:Bool) (h':ak),CW 56 [.agg (M.dv s).toArray,.agg (M'.dv s').toArray] h=some (.bool r,h')∧(r=true↔ManEq M M')∧Old h h':=by
 have b1:=c9 h (M.dv s) (man_ok x ok).2.1
 have o1:Old h (h.alloc (M.dv s)):=Kept.alloc _ _ _
 have g1:(h.alloc (M.dv s)).get h.next=some (M.dv s):=by rw [ak.aM,if_pos rfl]
 have n1:(h.alloc (M.dv s)).n0=h.n0:=o1.n0
 generalize h.alloc (M.dv s)=h1 at *
 have b2:=c9 h1 (M'.dv s') (man_ok x' ok').2.1
 have o2:Old h1 (h1.alloc (M'.dv s')):=Kept.alloc _ _ _
 have g2:(h1.alloc (M'.dv s')).get h1.next=some (M'.dv s'):=by rw [ak.aM,if_pos rfl]
 have g12:=Old.get o2 g1
 have n2:(h1.alloc (M'.dv s')).n0=h.n0:=o2.n0.trans n1
 generalize h1.alloc (M'.dv s')=h2 at *
 have o12:Old h h2:=o1.trans o2
 have A:=fB x ok g12
 have B:=fB x' ok' g2
 have y:=x.bm o12
 have y':=x'.bm o12
 have hG2:4≤h2.n0:=by omega
 obtain ⟨r0,p0,q0,_⟩:=eqI 3 .i64 M.gk M'.gk
 obtain ⟨r1,p1,q1,_⟩:=eqI 3 .i64 M.gn M'.gn
 obtain ⟨r2,p2,q2,_⟩:=eqI 3 .i64 M.gt M'.gt
 obtain ⟨r3,p3,q3,_⟩:=eqI 3 .i64 M.gs M'.gs
 obtain ⟨r4,p4,q4,_⟩:=eq28 _ _ ok.cp ok'.cp
 obtain ⟨r5,q5,p5⟩:=r86 hG2 y.e y'.e sm.e
 have key : ∀ o,t56 CW (.agg (M.dv s).toArray) (.agg (M'.dv s').toArray) h=o → ∃ (r:Bool) (h':ak),o=some (.bool r,h')∧(r=true↔ManEq M M')∧Old h h':=by
  intro o ho
  unfold t56 at ho
  simp (maxSteps:=3000000) -implicitDefEqProofs only [ah, aq, ar, ao, Nat.zero_add, b1, b2, A.l0, B.l0, q0] at ho
  cases r0
  ·try simp (maxSteps:=3000000) -implicitDefEqProofs only [ah, ar, fs, ai, Bool.false_eq_true, if_false] at ho
   exact ⟨false,h2,ho.symm,⟨fun h=>(by cases h),fun h=>(by have:=p0.2 h.1;cases this)⟩,o12⟩
  try simp (maxSteps:=3000000) -implicitDefEqProofs only [ah, aq, ar, beq_self_eq_true, aj, if_true, A.l1, B.l1, q1] at ho
  cases r1
  ·try simp (maxSteps:=3000000) -implicitDefEqProofs only [ah, ar, fs, ai, Bool.false_eq_true, if_false] at ho
   exact ⟨false,h2,ho.symm,⟨fun h=>(by cases h),fun h=>(by have:=p1.2 h.2.1;cases this)⟩,o12⟩
  try simp (maxSteps:=3000000) -implicitDefEqProofs only [ah, aq, ar, beq_self_eq_true, aj, if_true, A.l2, B.l2, q2] at ho
  cases r2
  ·try simp (maxSteps:=3000000) -implicitDefEqProofs only [ah, ar, fs, ai, Bool.false_eq_true, if_false] at ho
   exact ⟨false,h2,ho.symm,⟨fun h=>(by cases h),fun h=>(by have:=p2.2 h.2.2.1;cases this)⟩,o12⟩
  try simp (maxSteps:=3000000) -implicitDefEqProofs only [ah, aq, ar, beq_self_eq_true, aj, if_true, A.l3, B.l3, q3] at ho
  cases r3
  ·try simp (maxSteps:=3000000) -implicitDefEqProofs only [ah, ar, fs, ai, Bool.false_eq_true, if_false] at ho
   exact ⟨false,h2,ho.symm,⟨fun h=>(by cases h),fun h=>(by have:=p3.2 h.2.2.2.1;cases this)⟩,o12⟩
  try simp (maxSteps:=3000000) -implicitDefEqProofs only [ah, aq, ar, beq_self_eq_true, aj, if_true, A.l4, B.l4, q4] at ho
  cases r4
  ·try simp (maxSteps:=3000000) -implicitDefEqProofs only [ah, fs, ai, Bool.false_eq_true, if_false] at ho
   exact ⟨false,h2,ho.symm,⟨fun h=>(by cases h),fun h=>(by have:=p4.2 h.2.2.2.2.1;cases this)⟩,o12⟩
  try simp (maxSteps:=3000000) -implicitDefEqProofs only [ah, beq_self_eq_true, aj, if_true, A.dP, B.dP, q5] at ho
  cases r5
  ·try simp (maxSteps:=3000000) -implicitDefEqProofs only [ah,aq,ar,fs,sf,beq_self_eq_true,aj,ai,Bool.false_eq_true,if_false,if_true,ao,Nat.zero_add,Bool.not_true,Bool.not_false,au,b1,b2,A.l0,A.l1,A.l2,A.l3,A.l4,A.dP,B.l0,B.l1,B.l2,B.l3,B.l4,B.dP,q0,q1,q2,q3,q4,q5] at ho
   exact ⟨false,h2,ho.symm,⟨fun h=>(by cases h),fun h=>(by have:=p5.2 h.2.2.2.2.2;cases this)⟩,o12⟩
  try simp (maxSteps:=3000000) -implicitDefEqProofs only [ah,aq,ar,fs,sf,beq_self_eq_true,aj,ai,Bool.false_eq_true,if_false,if_true,ao,Nat.zero_add,Bool.not_true,Bool.not_false,au,b1,b2,A.l0,A.l1,A.l2,A.l3,A.l4,A.dP,B.l0,B.l1,B.l2,B.l3,B.l4,B.dP,q0,q1,q2,q3,q4,q5] at ho
  exact ⟨true,h2,ho.symm,⟨fun _=>⟨p0.1 rfl,p1.1 rfl,p2.1 rfl,p3.1 rfl,p4.1 rfl,p5.1 rfl⟩,fun _=>rfl⟩,o12⟩
 obtain ⟨r,h',k1,k2,k3⟩:=key _ rfl
 exact ⟨r,h',aG is56 hG rfl ((t56_eq _ _ _ _).trans k1),k2,k3⟩
theorem r45 : ∃ (r:Bool) (h':ak),CW 45 [.agg (M.dv s).toArray,.agg (M'.dv s').toArray] h=some (.bool r,h')∧(r=true↔ManEq M M')∧Old h h':=by
 have b1:=c9 h (M.dv s) (man_ok x ok).2.1
 have o1:Old h (h.alloc (M.dv s)):=Kept.alloc _ _ _
 have g1:(h.alloc (M.dv s)).get h.next=some (M.dv s):=by rw [ak.aM,if_pos rfl]
 have n1:(h.alloc (M.dv s)).n0=h.n0:=o1.n0
 generalize h.alloc (M.dv s)=h1 at *
 have b2:=c9 h1 (M'.dv s') (man_ok x' ok').2.1
 have o2:Old h1 (h1.alloc (M'.dv s')):=Kept.alloc _ _ _
 have g2:(h1.alloc (M'.dv s')).get h1.next=some (M'.dv s'):=by rw [ak.aM,if_pos rfl]
 have g12:=Old.get o2 g1
 have n2:(h1.alloc (M'.dv s')).n0=h.n0:=o2.n0.trans n1
 generalize h1.alloc (M'.dv s')=h2 at *
 have o12:Old h h2:=o1.trans o2
 have A:=fB x ok g12
 have B:=fB x' ok' g2
 have y:=x.bm o12
 have y':=x'.bm o12
 have hG2:4≤h2.n0:=by omega
 obtain ⟨r0,p0,_,q0⟩:=eqI 3 .i64 M.gk M'.gk
 obtain ⟨r1,p1,_,q1⟩:=eqI 3 .i64 M.gn M'.gn
 obtain ⟨r2,p2,_,q2⟩:=eqI 3 .i64 M.gt M'.gt
 obtain ⟨r3,p3,_,q3⟩:=eqI 3 .i64 M.gs M'.gs
 obtain ⟨r4,p4,_,q4⟩:=eq28 _ _ ok.cp ok'.cp
 have lx:=y.e.cells
 have ly:=y'.e.cells
 have l1:=y.e.len
 have l2:=y'.e.len
 have h32:fF.length=32:=rfl
 rw [h32] at lx ly
 obtain ⟨r5,p5⟩ : ∃ r5:Bool,r5=decide (n.e=n'.e):=⟨_,rfl⟩
 have q5:=neq3 n.e n'.e
 rw [←p5] at q5
 have key : ∀ o,t45 CW (.agg (M.dv s).toArray) (.agg (M'.dv s').toArray) h=o → ∃ (r:Bool) (h':ak),o=some (.bool r,h')∧(r=true↔ManEq M M')∧Old h h':=by
  intro o ho
  unfold t45 at ho
  simp (maxSteps:=3000000) -implicitDefEqProofs only [ah, aq, ar, ao, Nat.zero_add, b1, b2, A.l0, B.l0, q0] at ho
  cases r0
  ·try simp (maxSteps:=3000000) -implicitDefEqProofs only [ah, ar, sf, ai, if_true, Bool.not_false] at ho
   exact ⟨false,h2,ho.symm,⟨fun h=>(by cases h),fun h=>(by have:=p0.2 h.1;cases this)⟩,o12⟩
  try simp (maxSteps:=3000000) -implicitDefEqProofs only [ah, aq, ar, beq_self_eq_true, aj, Bool.false_eq_true, if_false, Bool.not_true, A.l1, B.l1, q1] at ho
  cases r1
  ·try simp (maxSteps:=3000000) -implicitDefEqProofs only [ah, ar, sf, ai, if_true, Bool.not_false] at ho
   exact ⟨false,h2,ho.symm,⟨fun h=>(by cases h),fun h=>(by have:=p1.2 h.2.1;cases this)⟩,o12⟩
  try simp (maxSteps:=3000000) -implicitDefEqProofs only [ah, aq, ar, beq_self_eq_true, aj, Bool.false_eq_true, if_false, Bool.not_true, A.l2, B.l2, q2] at ho
  cases r2
  ·try simp (maxSteps:=3000000) -implicitDefEqProofs only [ah, ar, sf, ai, if_true, Bool.not_false] at ho
   exact ⟨false,h2,ho.symm,⟨fun h=>(by cases h),fun h=>(by have:=p2.2 h.2.2.1;cases this)⟩,o12⟩
  try simp (maxSteps:=3000000) -implicitDefEqProofs only [ah, aq, ar, beq_self_eq_true, aj, Bool.false_eq_true, if_false, Bool.not_true, A.l3, B.l3, q3] at ho
  cases r3
  ·try simp (maxSteps:=3000000) -implicitDefEqProofs only [ah, ar, sf, ai, if_true, Bool.not_false] at ho
   exact ⟨false,h2,ho.symm,⟨fun h=>(by cases h),fun h=>(by have:=p3.2 h.2.2.2.1;cases this)⟩,o12⟩
  try simp (maxSteps:=3000000) -implicitDefEqProofs only [ah, aq, ar, beq_self_eq_true, aj, Bool.false_eq_true, if_false, Bool.not_true, A.l4, B.l4, q4] at ho
  cases r4
  ·try simp (maxSteps:=3000000) -implicitDefEqProofs only [ah, sf, ai, if_true, Bool.not_false] at ho
   exact ⟨false,h2,ho.symm,⟨fun h=>(by cases h),fun h=>(by have:=p4.2 h.2.2.2.2.1;cases this)⟩,o12⟩
  try simp (maxSteps:=3000000) -implicitDefEqProofs only [ah, aq, beq_self_eq_true, aj, Bool.false_eq_true, if_false, Bool.not_true, A.dP, B.dP, l1, l2, q5] at ho
  cases r5
  ·simp (maxSteps:=3000000) -implicitDefEqProofs only [Bool.not_false] at ho
   exact ⟨false,h2,ho.symm,⟨fun h=>(by cases h),fun h=>by
    have:=h.2.2.2.2.2
    rw [this,ly] at lx
    have:=Nat.eq_of_mul_eq_mul_right (by decide) lx
    rw [decide_eq_true this.symm] at p5
    cases p5⟩,o12⟩
  simp (maxSteps:=3000000) -implicitDefEqProofs only [Bool.not_true] at ho
  have hne:n.e=n'.e:=of_decide_eq_true p5.symm
  rw [←ho]
  refine cy (Q:=fun o:Out => ∃ (r:Bool) (h':ak),o=some (Value.bool r,h')∧(r=true↔ManEq M M')∧Old h h') (cn (t45l45_11010_eq CW) (round45 A B y.e (hne▸y'.e) sm.e) n.e (by have:rounds=18446744073709551616:=rfl;have:=sm.e;omega)
   ⟨0,Nat.zero_add _,rfl,rfl,rfl,rfl,fun j hj=>absurd hj (Nat.not_lt_zero j)⟩) ?_
  rintro ex z g ⟨rfl,⟨rfl,z4,hd⟩|⟨rfl,he⟩⟩
  ·rw [eL,fv (t:=4) results45 (by decide),z4]
   exact ⟨false,g,rfl,⟨fun h=>(by cases h),fun h=>absurd h.2.2.2.2.2 hd⟩,o12⟩
  ·simp -implicitDefEqProofs only [bG,b45_exit,t45k45_4_eq]
   unfold t45k45_4
   simp -implicitDefEqProofs only [ah]
   exact ⟨true,g,rfl,⟨fun _=>⟨p0.1 rfl,p1.1 rfl,p2.1 rfl,p3.1 rfl,p4.1 rfl,els_eq (by decide) lx (hne▸ly) he⟩,fun _=>rfl⟩,o12⟩
 obtain ⟨r,h',k1,k2,k3⟩:=key _ rfl
 exact ⟨r,h',aG is45 hG rfl ((t45_eq _ _ _ _).trans k1),k2,k3⟩
set_option maxRecDepth 100000 in
set_option maxHeartbeats 4000000 in
theorem r22 : ∃ (r:Bool) (h':ak),CW 22 [.agg (M.cells s).toArray,.agg (M'.cells s').toArray] h=some (.bool r,h')∧(r=true↔M=M')∧Old h h':=by
 have b1:=c9 h (M.cells s) (dE x ok).2.1
 have o1:Old h (h.alloc (M.cells s)):=Kept.alloc _ _ _
 have g1:(h.alloc (M.cells s)).get h.next=some (M.cells s):=by rw [ak.aM,if_pos rfl]
 have n1:(h.alloc (M.cells s)).n0=h.n0:=o1.n0
 generalize h.alloc (M.cells s)=h1 at *
 have b2:=c9 h1 (M'.cells s') (dE x' ok').2.1
 have o2:Old h1 (h1.alloc (M'.cells s')):=Kept.alloc _ _ _
 have g2:(h1.alloc (M'.cells s')).get h1.next=some (M'.cells s'):=by rw [ak.aM,if_pos rfl]
 have g12:=Old.get o2 g1
 have n2:(h1.alloc (M'.cells s')).n0=h.n0:=o2.n0.trans n1
 generalize h1.alloc (M'.cells s')=h2 at *
 have o12:Old h h2:=o1.trans o2
 have A:=msg_ld x ok g12
 have B:=msg_ld x' ok' g2
 have y:=x.bm o12
 have y':=x'.bm o12
 have hG2:4≤h2.n0:=by omega
 obtain ⟨r0,p0,q0,_⟩:=eqI 24 .u8 M.kind M'.kind
 obtain ⟨r1,p1,q1,_⟩:=eqI 3 .i64 M.from_ M'.from_
 obtain ⟨r2,p2,q2,_⟩:=eqI 3 .i64 M.eu M'.eu
 obtain ⟨r3,p3,q3,_⟩:=eqI 25 .u64 M.seq M'.seq
 obtain ⟨r4,p4,q4,_⟩:=eqI 3 .i64 M.origin M'.origin
 obtain ⟨r5,p5,q5,_⟩:=eqI 3 .i64 M.target M'.target
 obtain ⟨r6,q6,p6⟩:=r53 hG2 y.a y'.a sm.a
 obtain ⟨r7,q7,p7⟩:=r54 hG2 y.b y'.b sm.b
 obtain ⟨r8,q8,p8⟩:=r54 hG2 y.c y'.c sm.c
 obtain ⟨r9,p9,q9,_⟩:=eqI 3 .i64 M.count M'.count
 obtain ⟨r10,p10,q10,_⟩:=eq28 _ _ ok.root ok'.root
 obtain ⟨r11,q11,p11⟩:=r55 hG2 y.d y'.d sm.d
 obtain ⟨r12,p12,q12,_⟩:=eqB M.b7 M'.b7
 obtain ⟨r13,p13,q13,_⟩:=eq28 _ _ ok.obj ok'.obj
 obtain ⟨r14,h3,q14,p14,o3⟩:=r56 hG2 y y' ok ok' sm
 have o13:Old h h3:=o12.trans o3
 have A3:=msg_ld x ok (Old.get o3 g12)
 have B3:=msg_ld x' ok' (Old.get o3 g2)
 have hG3:4≤h3.n0:=by have:=o3.n0;omega
 obtain ⟨r15,p15,q15,_⟩:=eqI 3 .i64 M.cg M'.cg
 obtain ⟨r16,q16,p16⟩:=r54 hG3 (y.f.bm o3) (y'.f.bm o3) sm.f
 obtain ⟨r17,p17,q17,_⟩:=eqI 35 .i64 M.code M'.code
 have key : ∀ o,t22 CW (.agg (M.cells s).toArray) (.agg (M'.cells s').toArray) h=o → ∃ (r:Bool) (h':ak),o=some (.bool r,h')∧(r=true↔M=M')∧Old h h':=by
  intro o ho
  unfold t22 at ho
  simp (maxSteps:=3000000) -implicitDefEqProofs only [ah, aq, ar, ao, Nat.zero_add, b1, b2, A.l0, B.l0, Nat.add_zero, q0] at ho
  cases r0
  ·try simp (maxSteps:=3000000) -implicitDefEqProofs only [ah, ar, fs, ai, Bool.false_eq_true, if_false] at ho
   exact ⟨false,h2,ho.symm,⟨fun h=>(by cases h),fun h=>(by have:=p0.2 (congrArg bD.kind h);cases this)⟩,o12⟩
  try simp (maxSteps:=3000000) -implicitDefEqProofs only [ah, aq, ar, beq_self_eq_true, aj, if_true, A.l1, B.l1, q1] at ho
  cases r1
  ·try simp (maxSteps:=3000000) -implicitDefEqProofs only [ah, ar, fs, ai, Bool.false_eq_true, if_false] at ho
   exact ⟨false,h2,ho.symm,⟨fun h=>(by cases h),fun h=>(by have:=p1.2 (congrArg bD.from_ h);cases this)⟩,o12⟩
  try simp (maxSteps:=3000000) -implicitDefEqProofs only [ah, aq, ar, beq_self_eq_true, aj, if_true, A.l2, B.l2, q2] at ho
  cases r2
  ·try simp (maxSteps:=3000000) -implicitDefEqProofs only [ah, ar, fs, ai, Bool.false_eq_true, if_false] at ho
   exact ⟨false,h2,ho.symm,⟨fun h=>(by cases h),fun h=>(by have:=p2.2 (congrArg bD.eu h);cases this)⟩,o12⟩
  try simp (maxSteps:=3000000) -implicitDefEqProofs only [ah, aq, ar, beq_self_eq_true, aj, if_true, A.l3, B.l3, q3] at ho
  cases r3
  ·try simp (maxSteps:=3000000) -implicitDefEqProofs only [ah, ar, fs, ai, Bool.false_eq_true, if_false] at ho
   exact ⟨false,h2,ho.symm,⟨fun h=>(by cases h),fun h=>(by have:=p3.2 (congrArg bD.seq h);cases this)⟩,o12⟩
  try simp (maxSteps:=3000000) -implicitDefEqProofs only [ah, aq, ar, beq_self_eq_true, aj, if_true, A.l4, B.l4, q4] at ho
  cases r4
  ·try simp (maxSteps:=3000000) -implicitDefEqProofs only [ah, ar, fs, ai, Bool.false_eq_true, if_false] at ho
   exact ⟨false,h2,ho.symm,⟨fun h=>(by cases h),fun h=>(by have:=p4.2 (congrArg bD.origin h);cases this)⟩,o12⟩
  try simp (maxSteps:=3000000) -implicitDefEqProofs only [ah, aq, ar, beq_self_eq_true, aj, if_true, A.l5, B.l5, q5] at ho
  cases r5
  ·try simp (maxSteps:=3000000) -implicitDefEqProofs only [ah, ar, fs, ai, Bool.false_eq_true, if_false] at ho
   exact ⟨false,h2,ho.symm,⟨fun h=>(by cases h),fun h=>(by have:=p5.2 (congrArg bD.target h);cases this)⟩,o12⟩
  try simp (maxSteps:=3000000) -implicitDefEqProofs only [ah, ar, beq_self_eq_true, aj, if_true, A.l6, B.l6, q6] at ho
  cases r6
  ·try simp (maxSteps:=3000000) -implicitDefEqProofs only [ah, ar, fs, ai, Bool.false_eq_true, if_false] at ho
   exact ⟨false,h2,ho.symm,⟨fun h=>(by cases h),fun h=>(by have:=p6.2 (congrArg bD.table h);cases this)⟩,o12⟩
  try simp (maxSteps:=3000000) -implicitDefEqProofs only [ah, ar, beq_self_eq_true, aj, if_true, A.l7, B.l7, q7] at ho
  cases r7
  ·try simp (maxSteps:=3000000) -implicitDefEqProofs only [ah, ar, fs, ai, Bool.false_eq_true, if_false] at ho
   exact ⟨false,h2,ho.symm,⟨fun h=>(by cases h),fun h=>(by have:=p7.2 (congrArg bD.low h);cases this)⟩,o12⟩
  try simp (maxSteps:=3000000) -implicitDefEqProofs only [ah, ar, beq_self_eq_true, aj, if_true, A.l8, B.l8, q8] at ho
  cases r8
  ·try simp (maxSteps:=3000000) -implicitDefEqProofs only [ah, ar, fs, ai, Bool.false_eq_true, if_false] at ho
   exact ⟨false,h2,ho.symm,⟨fun h=>(by cases h),fun h=>(by have:=p8.2 (congrArg bD.high h);cases this)⟩,o12⟩
  try simp (maxSteps:=3000000) -implicitDefEqProofs only [ah, aq, ar, beq_self_eq_true, aj, if_true, A.l9, B.l9, q9] at ho
  cases r9
  ·try simp (maxSteps:=3000000) -implicitDefEqProofs only [ah, ar, fs, ai, Bool.false_eq_true, if_false] at ho
   exact ⟨false,h2,ho.symm,⟨fun h=>(by cases h),fun h=>(by have:=p9.2 (congrArg bD.count h);cases this)⟩,o12⟩
  try simp (maxSteps:=3000000) -implicitDefEqProofs only [ah, aq, ar, beq_self_eq_true, aj, if_true, A.ch, B.ch, q10] at ho
  cases r10
  ·try simp (maxSteps:=3000000) -implicitDefEqProofs only [ah, ar, fs, ai, Bool.false_eq_true, if_false] at ho
   exact ⟨false,h2,ho.symm,⟨fun h=>(by cases h),fun h=>(by have:=p10.2 (congrArg bD.root h);cases this)⟩,o12⟩
  try simp (maxSteps:=3000000) -implicitDefEqProofs only [ah, ar, beq_self_eq_true, aj, if_true, A.bF, B.bF, q11] at ho
  cases r11
  ·try simp (maxSteps:=3000000) -implicitDefEqProofs only [ah, ar, fs, ai, Bool.false_eq_true, if_false] at ho
   exact ⟨false,h2,ho.symm,⟨fun h=>(by cases h),fun h=>(by have:=p11.2 (congrArg bD.bC h);cases this)⟩,o12⟩
  try simp (maxSteps:=3000000) -implicitDefEqProofs only [ah, aq, ar, beq_self_eq_true, aj, if_true, A.bU, B.bU, q12] at ho
  cases r12
  ·try simp (maxSteps:=3000000) -implicitDefEqProofs only [ah, ar, fs, ai, Bool.false_eq_true, if_false] at ho
   exact ⟨false,h2,ho.symm,⟨fun h=>(by cases h),fun h=>(by have:=p12.2 (congrArg bD.b7 h);cases this)⟩,o12⟩
  try simp (maxSteps:=3000000) -implicitDefEqProofs only [ah, aq, ar, beq_self_eq_true, aj, if_true, A.b8, B.b8, q13] at ho
  cases r13
  ·try simp (maxSteps:=3000000) -implicitDefEqProofs only [ah, ar, fs, ai, Bool.false_eq_true, if_false] at ho
   exact ⟨false,h2,ho.symm,⟨fun h=>(by cases h),fun h=>(by have:=p13.2 (congrArg bD.obj h);cases this)⟩,o12⟩
  try simp (maxSteps:=3000000) -implicitDefEqProofs only [ah, ar, beq_self_eq_true, aj, if_true, A.bR, B.bR, q14] at ho
  cases r14
  ·try simp (maxSteps:=3000000) -implicitDefEqProofs only [ah, ar, fs, ai, Bool.false_eq_true, if_false] at ho
   exact ⟨false,h3,ho.symm,⟨fun h=>(by cases h),fun h=>(by have:=p14.2 (by rw [h];exact ⟨rfl,rfl,rfl,rfl,rfl,rfl⟩);cases this)⟩,o13⟩
  try simp (maxSteps:=3000000) -implicitDefEqProofs only [ah, aq, ar, beq_self_eq_true, aj, if_true, ao, A3.aT, B3.aT, Nat.add_zero, q15] at ho
  cases r15
  ·try simp (maxSteps:=3000000) -implicitDefEqProofs only [ah, ar, fs, ai, Bool.false_eq_true, if_false] at ho
   exact ⟨false,h3,ho.symm,⟨fun h=>(by cases h),fun h=>(by have:=p15.2 (congrArg bD.cg h);cases this)⟩,o13⟩
  try simp (maxSteps:=3000000) -implicitDefEqProofs only [ah, aq, ar, beq_self_eq_true, aj, if_true, ao, A3.aR, B3.aR, q16] at ho
  cases r16
  ·try simp (maxSteps:=3000000) -implicitDefEqProofs only [ah, fs, ai, Bool.false_eq_true, if_false] at ho
   exact ⟨false,h3,ho.symm,⟨fun h=>(by cases h),fun h=>(by have:=p16.2 (congrArg bD.data h);cases this)⟩,o13⟩
  try simp (maxSteps:=3000000) -implicitDefEqProofs only [ah, aq, beq_self_eq_true, aj, if_true, A3.aU, B3.aU, q17] at ho
  cases r17
  ·try simp (maxSteps:=3000000) -implicitDefEqProofs only [ah,aq,ar,fs,sf,beq_self_eq_true,aj,ai,Bool.false_eq_true,if_false,if_true,ao,Nat.zero_add,Bool.not_true,Bool.not_false,au,b1,b2,A.l0,A.l1,A.l2,A.l3,A.l4,A.l5,A.l6,A.l7,A.l8,A.l9,A.ch,A.bF,A.bU,A.b8,A.bR,B.l0,B.l1,B.l2,B.l3,B.l4,B.l5,B.l6,B.l7,B.l8,B.l9,B.ch,B.bF,B.bU,B.b8,B.bR,A3.aT,A3.aR,A3.aU,B3.aT,B3.aR,B3.aU,Nat.add_zero,q0,q1,q2,q3,q4,q5,q6,q7,q8,q9,q10,q11,q12,q13,q14,q15,q16,q17] at ho
   exact ⟨false,h3,ho.symm,⟨fun h=>(by cases h),fun h=>(by have:=p17.2 (congrArg bD.code h);cases this)⟩,o13⟩
  try simp (maxSteps:=3000000) -implicitDefEqProofs only [ah,aq,ar,fs,sf,beq_self_eq_true,aj,ai,Bool.false_eq_true,if_false,if_true,ao,Nat.zero_add,Bool.not_true,Bool.not_false,au,b1,b2,A.l0,A.l1,A.l2,A.l3,A.l4,A.l5,A.l6,A.l7,A.l8,A.l9,A.ch,A.bF,A.bU,A.b8,A.bR,B.l0,B.l1,B.l2,B.l3,B.l4,B.l5,B.l6,B.l7,B.l8,B.l9,B.ch,B.bF,B.bU,B.b8,B.bR,A3.aT,A3.aR,A3.aU,B3.aT,B3.aR,B3.aU,Nat.add_zero,q0,q1,q2,q3,q4,q5,q6,q7,q8,q9,q10,q11,q12,q13,q14,q15,q16,q17] at ho
  obtain ⟨m1,m2,m3,m4,m5,m6⟩:=p14.1 rfl
  exact ⟨true,h3,ho.symm,⟨fun _=>bD.ext (p0.1 rfl) (p1.1 rfl) (p2.1 rfl) (p3.1 rfl) (p4.1 rfl) (p5.1 rfl) (p9.1 rfl) (p10.1 rfl) (p12.1 rfl) (p13.1 rfl) m1 m2 m3 m4 m5 (p15.1 rfl) (p17.1 rfl) (p6.1 rfl) (p7.1 rfl) (p8.1 rfl) (p11.1 rfl) m6 (p16.1 rfl),fun _=>rfl⟩,o13⟩
 obtain ⟨r,h',k1,k2,k3⟩:=key _ rfl
 exact ⟨r,h',aG is22 hG rfl ((t22_eq _ _ _ _).trans k1),k2,k3⟩
set_option maxRecDepth 100000 in
set_option maxHeartbeats 4000000 in
theorem r15 : ∃ (r:Bool) (h':ak),CW 15 [.agg (M.cells s).toArray,.agg (M'.cells s').toArray] h=some (.bool r,h')∧(r=true↔M=M')∧Old h h':=by
 have b1:=c9 h (M.cells s) (dE x ok).2.1
 have o1:Old h (h.alloc (M.cells s)):=Kept.alloc _ _ _
 have g1:(h.alloc (M.cells s)).get h.next=some (M.cells s):=by rw [ak.aM,if_pos rfl]
 have n1:(h.alloc (M.cells s)).n0=h.n0:=o1.n0
 generalize h.alloc (M.cells s)=h1 at *
 have b2:=c9 h1 (M'.cells s') (dE x' ok').2.1
 have o2:Old h1 (h1.alloc (M'.cells s')):=Kept.alloc _ _ _
 have g2:(h1.alloc (M'.cells s')).get h1.next=some (M'.cells s'):=by rw [ak.aM,if_pos rfl]
 have g12:=Old.get o2 g1
 have n2:(h1.alloc (M'.cells s')).n0=h.n0:=o2.n0.trans n1
 generalize h1.alloc (M'.cells s')=h2 at *
 have o12:Old h h2:=o1.trans o2
 have A:=msg_ld x ok g12
 have B:=msg_ld x' ok' g2
 have y:=x.bm o12
 have y':=x'.bm o12
 have hG2:4≤h2.n0:=by omega
 obtain ⟨r0,p0,_,q0⟩:=eqI 24 .u8 M.kind M'.kind
 obtain ⟨r1,p1,_,q1⟩:=eqI 3 .i64 M.from_ M'.from_
 obtain ⟨r2,p2,_,q2⟩:=eqI 3 .i64 M.eu M'.eu
 obtain ⟨r3,p3,_,q3⟩:=eqI 25 .u64 M.seq M'.seq
 obtain ⟨r4,p4,_,q4⟩:=eqI 3 .i64 M.origin M'.origin
 obtain ⟨r5,p5,_,q5⟩:=eqI 3 .i64 M.target M'.target
 obtain ⟨r6,q6,p6⟩:=r43 hG2 y.a y'.a sm.a
 obtain ⟨r7,u7,v7,p7,w7,_,q7⟩:=str_eq y.b y'.b
 obtain ⟨r8,u8,v8,p8,w8,_,q8⟩:=str_eq y.c y'.c
 obtain ⟨w7,w7'⟩:=w7 h2 (Kept.refl _ _)
 obtain ⟨w8,w8'⟩:=w8 h2 (Kept.refl _ _)
 obtain ⟨r9,p9,_,q9⟩:=eqI 3 .i64 M.count M'.count
 obtain ⟨r10,p10,_,q10⟩:=eq28 _ _ ok.root ok'.root
 obtain ⟨r11,q11,p11⟩:=r44 hG2 y.d y'.d sm.d
 obtain ⟨r12,p12,_,q12⟩:=eqB M.b7 M'.b7
 obtain ⟨r13,p13,q13,_⟩:=eq28 _ _ ok.obj ok'.obj
 obtain ⟨r14,h3,q14,p14,o3⟩:=r45 hG2 y y' ok ok' sm
 have o13:Old h h3:=o12.trans o3
 have A3:=msg_ld x ok (Old.get o3 g12)
 have B3:=msg_ld x' ok' (Old.get o3 g2)
 have hG3:4≤h3.n0:=by have:=o3.n0;omega
 obtain ⟨r15,p15,q15,_⟩:=eqI 3 .i64 M.cg M'.cg
 obtain ⟨r16,u16,v16,p16,w16,q16,_⟩:=str_eq y.f y'.f
 obtain ⟨w16,w16'⟩:=w16 h3 o3
 obtain ⟨r17,p17,q17,_⟩:=eqI 35 .i64 M.code M'.code
 have key : ∀ o,t15 CW (.agg (M.cells s).toArray) (.agg (M'.cells s').toArray) h=o → ∃ (r:Bool) (h':ak),o=some (.bool r,h')∧(r=true↔M=M')∧Old h h':=by
  intro o ho
  unfold t15 at ho
  simp (maxSteps:=3000000) -implicitDefEqProofs only [ah, aq, ar, ao, Nat.zero_add, b1, b2, A.l0, B.l0, Nat.add_zero, q0] at ho
  cases r0
  ·try simp (maxSteps:=3000000) -implicitDefEqProofs only [ah, ar, sf, ai, if_true, Bool.not_false] at ho
   exact ⟨false,h2,ho.symm,⟨fun h=>(by cases h),fun h=>(by have:=p0.2 (congrArg bD.kind h);cases this)⟩,o12⟩
  try simp (maxSteps:=3000000) -implicitDefEqProofs only [ah, aq, ar, beq_self_eq_true, aj, Bool.false_eq_true, if_false, Bool.not_true, A.l1, B.l1, q1] at ho
  cases r1
  ·try simp (maxSteps:=3000000) -implicitDefEqProofs only [ah, ar, sf, ai, if_true, Bool.not_false] at ho
   exact ⟨false,h2,ho.symm,⟨fun h=>(by cases h),fun h=>(by have:=p1.2 (congrArg bD.from_ h);cases this)⟩,o12⟩
  try simp (maxSteps:=3000000) -implicitDefEqProofs only [ah, aq, ar, beq_self_eq_true, aj, Bool.false_eq_true, if_false, Bool.not_true, A.l2, B.l2, q2] at ho
  cases r2
  ·try simp (maxSteps:=3000000) -implicitDefEqProofs only [ah, ar, sf, ai, if_true, Bool.not_false] at ho
   exact ⟨false,h2,ho.symm,⟨fun h=>(by cases h),fun h=>(by have:=p2.2 (congrArg bD.eu h);cases this)⟩,o12⟩
  try simp (maxSteps:=3000000) -implicitDefEqProofs only [ah, aq, ar, beq_self_eq_true, aj, Bool.false_eq_true, if_false, Bool.not_true, A.l3, B.l3, q3] at ho
  cases r3
  ·try simp (maxSteps:=3000000) -implicitDefEqProofs only [ah, ar, sf, ai, if_true, Bool.not_false] at ho
   exact ⟨false,h2,ho.symm,⟨fun h=>(by cases h),fun h=>(by have:=p3.2 (congrArg bD.seq h);cases this)⟩,o12⟩
  try simp (maxSteps:=3000000) -implicitDefEqProofs only [ah, aq, ar, beq_self_eq_true, aj, Bool.false_eq_true, if_false, Bool.not_true, A.l4, B.l4, q4] at ho
  cases r4
  ·try simp (maxSteps:=3000000) -implicitDefEqProofs only [ah, ar, sf, ai, if_true, Bool.not_false] at ho
   exact ⟨false,h2,ho.symm,⟨fun h=>(by cases h),fun h=>(by have:=p4.2 (congrArg bD.origin h);cases this)⟩,o12⟩
  try simp (maxSteps:=3000000) -implicitDefEqProofs only [ah, aq, ar, beq_self_eq_true, aj, Bool.false_eq_true, if_false, Bool.not_true, A.l5, B.l5, q5] at ho
  cases r5
  ·try simp (maxSteps:=3000000) -implicitDefEqProofs only [ah, sf, ai, if_true, Bool.not_false] at ho
   exact ⟨false,h2,ho.symm,⟨fun h=>(by cases h),fun h=>(by have:=p5.2 (congrArg bD.target h);cases this)⟩,o12⟩
  try simp (maxSteps:=3000000) -implicitDefEqProofs only [ah, aq, ar, beq_self_eq_true, aj, Bool.false_eq_true, if_false, Bool.not_true, au, A.l6, A.l7, B.l6, B.l7, q6, q7, w7, w7'] at ho
  cases r6
  ·try simp (maxSteps:=3000000) -implicitDefEqProofs only [Bool.not_false] at ho
   exact ⟨false,h2,ho.symm,⟨fun h=>(by cases h),fun h=>(by have:=p6.2 (congrArg bD.table h);cases this)⟩,o12⟩
  try simp (maxSteps:=3000000) -implicitDefEqProofs only [Bool.not_true] at ho
  cases r7
  ·try simp (maxSteps:=3000000) -implicitDefEqProofs only [ah, ar, sf, ai, if_true, Bool.not_false] at ho
   exact ⟨false,h2,ho.symm,⟨fun h=>(by cases h),fun h=>(by have:=p7.2 (congrArg bD.low h);cases this)⟩,o12⟩
  try simp (maxSteps:=3000000) -implicitDefEqProofs only [ah, aq, ar, beq_self_eq_true, aj, Bool.false_eq_true, if_false, Bool.not_true, A.l8, B.l8, q8, w8, w8'] at ho
  cases r8
  ·try simp (maxSteps:=3000000) -implicitDefEqProofs only [ah, ar, sf, ai, if_true, Bool.not_false] at ho
   exact ⟨false,h2,ho.symm,⟨fun h=>(by cases h),fun h=>(by have:=p8.2 (congrArg bD.high h);cases this)⟩,o12⟩
  try simp (maxSteps:=3000000) -implicitDefEqProofs only [ah, aq, ar, beq_self_eq_true, aj, Bool.false_eq_true, if_false, Bool.not_true, A.l9, B.l9, q9] at ho
  cases r9
  ·try simp (maxSteps:=3000000) -implicitDefEqProofs only [ah, ar, sf, ai, if_true, Bool.not_false] at ho
   exact ⟨false,h2,ho.symm,⟨fun h=>(by cases h),fun h=>(by have:=p9.2 (congrArg bD.count h);cases this)⟩,o12⟩
  try simp (maxSteps:=3000000) -implicitDefEqProofs only [ah, aq, ar, beq_self_eq_true, aj, Bool.false_eq_true, if_false, Bool.not_true, A.ch, B.ch, q10] at ho
  cases r10
  ·try simp (maxSteps:=3000000) -implicitDefEqProofs only [ah, ar, sf, ai, if_true, Bool.not_false] at ho
   exact ⟨false,h2,ho.symm,⟨fun h=>(by cases h),fun h=>(by have:=p10.2 (congrArg bD.root h);cases this)⟩,o12⟩
  try simp (maxSteps:=3000000) -implicitDefEqProofs only [ah, aq, ar, beq_self_eq_true, aj, Bool.false_eq_true, if_false, Bool.not_true, au, A.bF, B.bF, q11] at ho
  cases r11
  ·try simp (maxSteps:=3000000) -implicitDefEqProofs only [ah, sf, ai, if_true, Bool.not_false] at ho
   exact ⟨false,h2,ho.symm,⟨fun h=>(by cases h),fun h=>(by have:=p11.2 (congrArg bD.bC h);cases this)⟩,o12⟩
  try simp (maxSteps:=3000000) -implicitDefEqProofs only [ah, aq, ar, beq_self_eq_true, aj, Bool.false_eq_true, if_false, Bool.not_true, A.bU, A.b8, B.bU, B.b8, q12, q13] at ho
  cases r12
  ·try simp (maxSteps:=3000000) -implicitDefEqProofs only [Bool.not_false] at ho
   exact ⟨false,h2,ho.symm,⟨fun h=>(by cases h),fun h=>(by have:=p12.2 (congrArg bD.b7 h);cases this)⟩,o12⟩
  try simp (maxSteps:=3000000) -implicitDefEqProofs only [Bool.not_true] at ho
  cases r13
  ·try simp (maxSteps:=3000000) -implicitDefEqProofs only [ah, ar, fs, ai, Bool.false_eq_true, if_false] at ho
   exact ⟨false,h2,ho.symm,⟨fun h=>(by cases h),fun h=>(by have:=p13.2 (congrArg bD.obj h);cases this)⟩,o12⟩
  try simp (maxSteps:=3000000) -implicitDefEqProofs only [ah, ar, beq_self_eq_true, aj, if_true, A.bR, B.bR, q14] at ho
  cases r14
  ·try simp (maxSteps:=3000000) -implicitDefEqProofs only [ah, ar, fs, ai, Bool.false_eq_true, if_false] at ho
   exact ⟨false,h3,ho.symm,⟨fun h=>(by cases h),fun h=>(by have:=p14.2 (by rw [h];exact ⟨rfl,rfl,rfl,rfl,rfl,rfl⟩);cases this)⟩,o13⟩
  try simp (maxSteps:=3000000) -implicitDefEqProofs only [ah, aq, ar, beq_self_eq_true, aj, if_true, ao, A3.aT, B3.aT, Nat.add_zero, q15] at ho
  cases r15
  ·try simp (maxSteps:=3000000) -implicitDefEqProofs only [ah, ar, fs, ai, Bool.false_eq_true, if_false] at ho
   exact ⟨false,h3,ho.symm,⟨fun h=>(by cases h),fun h=>(by have:=p15.2 (congrArg bD.cg h);cases this)⟩,o13⟩
  try simp (maxSteps:=3000000) -implicitDefEqProofs only [ah, aq, ar, beq_self_eq_true, aj, if_true, ao, A3.aR, B3.aR, q16, w16, w16'] at ho
  cases r16
  ·try simp (maxSteps:=3000000) -implicitDefEqProofs only [ah, fs, ai, Bool.false_eq_true, if_false] at ho
   exact ⟨false,h3,ho.symm,⟨fun h=>(by cases h),fun h=>(by have:=p16.2 (congrArg bD.data h);cases this)⟩,o13⟩
  try simp (maxSteps:=3000000) -implicitDefEqProofs only [ah, aq, beq_self_eq_true, aj, if_true, A3.aU, B3.aU, q17] at ho
  cases r17
  ·try simp (maxSteps:=3000000) -implicitDefEqProofs only [ah,aq,ar,fs,sf,beq_self_eq_true,aj,ai,Bool.false_eq_true,if_false,if_true,ao,Nat.zero_add,Bool.not_true,Bool.not_false,au,b1,b2,A.l0,A.l1,A.l2,A.l3,A.l4,A.l5,A.l6,A.l7,A.l8,A.l9,A.ch,A.bF,A.bU,A.b8,A.bR,B.l0,B.l1,B.l2,B.l3,B.l4,B.l5,B.l6,B.l7,B.l8,B.l9,B.ch,B.bF,B.bU,B.b8,B.bR,A3.aT,A3.aR,A3.aU,B3.aT,B3.aR,B3.aU,Nat.add_zero,q0,q1,q2,q3,q4,q5,q6,q7,q8,q9,q10,q11,q12,q13,q14,q15,q16,q17,w7,w7',w8,w8',w16,w16'] at ho
   exact ⟨false,h3,ho.symm,⟨fun h=>(by cases h),fun h=>(by have:=p17.2 (congrArg bD.code h);cases this)⟩,o13⟩
  try simp (maxSteps:=3000000) -implicitDefEqProofs only [ah,aq,ar,fs,sf,beq_self_eq_true,aj,ai,Bool.false_eq_true,if_false,if_true,ao,Nat.zero_add,Bool.not_true,Bool.not_false,au,b1,b2,A.l0,A.l1,A.l2,A.l3,A.l4,A.l5,A.l6,A.l7,A.l8,A.l9,A.ch,A.bF,A.bU,A.b8,A.bR,B.l0,B.l1,B.l2,B.l3,B.l4,B.l5,B.l6,B.l7,B.l8,B.l9,B.ch,B.bF,B.bU,B.b8,B.bR,A3.aT,A3.aR,A3.aU,B3.aT,B3.aR,B3.aU,Nat.add_zero,q0,q1,q2,q3,q4,q5,q6,q7,q8,q9,q10,q11,q12,q13,q14,q15,q16,q17,w7,w7',w8,w8',w16,w16'] at ho
  obtain ⟨m1,m2,m3,m4,m5,m6⟩:=p14.1 rfl
  exact ⟨true,h3,ho.symm,⟨fun _=>bD.ext (p0.1 rfl) (p1.1 rfl) (p2.1 rfl) (p3.1 rfl) (p4.1 rfl) (p5.1 rfl) (p9.1 rfl) (p10.1 rfl) (p12.1 rfl) (p13.1 rfl) m1 m2 m3 m4 m5 (p15.1 rfl) (p17.1 rfl) (p6.1 rfl) (p7.1 rfl) (p8.1 rfl) (p11.1 rfl) m6 (p16.1 rfl),fun _=>rfl⟩,o13⟩
 obtain ⟨r,h',k1,k2,k3⟩:=key _ rfl
 exact ⟨r,h',aG is15 hG rfl ((t15_eq _ _ _ _).trans k1),k2,k3⟩
end
end Go.Proofs.YtjghlcdidopcpaaGreatDoor

namespace Go.Proofs.YtjghlcdidopcpaaGreatDoor
open Go Go.Abs
attribute [local congr] aP
def In (v:Value) (p q:Nat):Prop := ∀ x,slB v=some x→p≤x∧x<q
theorem In.mono {v:Value} {p q p' q':Nat} (x:In v p q) (h1:p'≤p) (h2:q≤q'):In v p' q':=fun y hy=>by
 have:=x y hy
 omega
theorem newC_eq (cs:List Value) (h:ak):fz cs h=some (ptr h.next 0,h.alloc cs):=rfl
theorem app_new {h:ak} {ks:List Kd} {v:Value} {n:Nat} {cs:List Value} (by_:Nat) (x:dn h ks v n cs) (hz:0<ks.length) (hn:n≤1000000) (hb:by_≤100) :
  ∃ v' h',aO ks.length by_ (.slice (some ⟨h.next,0,none⟩) 0 0) v (h.alloc [])=some (v',h')∧dn h' ks v' n cs∧Old h h'∧In v' h.next h'.next∧h.next<h'.next:=by
 have o1:Old h (h.alloc []):=Kept.alloc _ _ _
 have n1:(h.alloc []).next=h.next+1:=ak.cA ..
 have hf:=(x.bm o1).first hz
 have hl:=x.cells
 have ht:=x.typed
 have hall:=ht.all
 obtain ⟨a,c,rfl,-⟩:=x
 have hc:n*by_≤140737488355328:=by
  have:=Nat.mul_le_mul hn hb
  omega
 have hcond:(!(aS cs) || !(decide ((0+n)*by_≤140737488355328)) || !(decide (0+n≤4611686018427387904))||decide (cs.length≠n*ks.length))=false:=by
  rw [hall.2,Nat.zero_add,decide_eq_true hc,decide_eq_true (by omega),decide_eq_false (by omega)];rfl
 by_cases h0:n=0
 ·subst h0
  refine ⟨.slice (some ⟨h.next,0,none⟩) 0 0,h.alloc [],?_,⟨_,_,rfl,fun h=>(by cases h),ht,fun h=>by omega⟩,o1,fun x hx=>(by cases hx),by omega⟩
  unfold aO
  simp only [lenA,hf]
  rw [if_neg (by rw [hcond];decide),if_pos (by omega),if_pos trivial]
 ·refine ⟨.slice (some ⟨(h.alloc []).next,0,some ks.length⟩) (0+n) (0+n),(h.alloc []).alloc cs,?_,⟨_,_,by rw [Nat.zero_add],fun h=>(by cases h),ht,fun _=>⟨_,0,_,cs,rfl,by rw [ak.aM,if_pos rfl],by omega,by rw [List.drop_zero,←hl,List.take_length]⟩⟩,o1.trans (Kept.alloc _ _ _),fun x hx => ?_,by rw [ak.cA];omega⟩
  ·have f0:cj ks.length 0 (.slice (some ⟨h.next,0,none⟩) 0 0) (h.alloc [])=some []:=by simp [cj]
   unfold aO
   simp only [lenA,hf]
   rw [if_neg (by rw [hcond];decide),if_neg (by omega)]
   simp only [f0]
   rw [if_neg (by simp)]
   rfl
  ·obtain ⟨m,rfl⟩ : ∃ m,n=m+1:=⟨n-1,by omega⟩
   rw [Nat.zero_add] at hx
   have hx:(h.alloc []).next=x:=Option.some.inj hx
   rw [ak.cA]
   omega
theorem bslM (h:ak):dD 2 (.agg #[(.int .u64 0),(.int .u8 0)]) 0 [] h=some (.slice (some ⟨h.next,0,none⟩) 0 0,h.alloc []):=rfl
theorem bslB (h:ak):dD 1 (.int .u8 0) 0 [] h=some (.slice (some ⟨h.next,0,none⟩) 0 0,h.alloc []):=rfl
theorem bslD (h:ak):dD 32 (.agg (List.replicate 32 (.int .u8 0)).toArray) 0 [] h=some (.slice (some ⟨h.next,0,none⟩) 0 0,h.alloc []):=rfl
theorem bslRec (h:ak):dD 39 (.agg #[(.int .u8 0),(.int .u8 0),(.int .u8 0),(.int .u8 0),(.int .u8 0),(.int .u8 0),(.int .u8 0),(.int .u8 0),(.int .u8 0),(.int .u8 0),(.int .u8 0),(.int .u8 0),(.int .u8 0),(.int .u8 0),(.int .u8 0),(.int .u8 0),(.int .u8 0),(.int .u8 0),(.int .u8 0),(.int .u8 0),(.int .u8 0),(.int .u8 0),(.int .u8 0),(.int .u8 0),(.int .u8 0),(.int .u8 0),(.int .u8 0),(.int .u8 0),(.int .u8 0),(.int .u8 0),(.int .u8 0),(.int .u8 0),(.int .u8 0),(.int .i64 0),(.int .u64 0),(.int .u64 0),(.bool false),(.int .i64 0),(.int .i64 0)]) 0 [] h=some (.slice (some ⟨h.next,0,none⟩) 0 0,h.alloc []):=rfl
theorem dn.fa {h:ak} {ks:List Kd} {v:Value} {n:Nat} {cs:List Value} (x:dn h ks v n cs):fa v v=true:=by
 obtain ⟨a,c,rfl,-⟩:=x
 simp [Abs.fa]
theorem fK {o:Out} {v:Value} {q:ak} (h:o=some (v,q)) (hv:fa v v=true):cF true o v=true:=by
 unfold cF Abs.same
 rw [h]
 simpa using hv
theorem is69:bB Tryz.prog 69 Tryz.f69:=⟨by kernel_rfl,by kernel_rfl,by kernel_rfl,by kernel_rfl⟩
theorem nil22 (a:Option Addr) (n c:Nat):bin Tryz.prog .eql 22 (.slice a n c) (.slice none 0 0)=some (.bool a.isNone):=by cases a<;>kernel_rfl
theorem cE {A B B':List Value} {i:Nat} {v:Value} (j:Nat) (h:A.length+j=i) (e:B.set j v=B'):(A++B).set i v=A++B':=by
 subst h
 rw [List.set_append_right _ _ (by omega),Nat.add_sub_cancel_left,e]
theorem cQ {A B:List Value} {i:Nat} {v:Value} (j:Nat) (h:A.length+j=i) (e:B[j]? = some v):(A++B)[i]? = some v:=by
 subst h
 rw [List.getElem?_append_right (by omega),Nat.add_sub_cancel_left,e]
section
variable {M:bD} {s:cP}
theorem set6 (v:Value):(M.cells s).set 6 v=M.cells { s with a:=v }:=rfl
theorem set7 (v:Value):(M.cells s).set 7 v=M.cells { s with b:=v }:=rfl
theorem set8 (v:Value):(M.cells s).set 8 v=M.cells { s with c:=v }:=rfl
variable (ok:M.Ok)
include ok
theorem fC:(M.dv s).length=37:=by
 have hl:M.cp.length=32:=ok.cp.1
 unfold bD.dv
 simp [hl]
theorem cells_len:(M.cells s).length=116:=by
 have h1:M.root.length=32:=ok.root.1
 have h2:M.obj.length=32:=ok.obj.1
 have h3:=fC (s:=s) ok
 unfold bD.cells bD.front
 simp [h1,h2,h3]
theorem set42 (v:Value):(M.cells s).set 42 v=M.cells { s with d:=v }:=
 cE 32 rfl (cE 0 (by rw [ok.root.1];rfl) rfl)
theorem man36 (v:Value):(M.dv s).set 36 v=M.dv { s with e:=v }:=cE 32 rfl (cE 0 (by rw [ok.cp.1];rfl) rfl)
theorem set112 (v:Value):(M.cells s).set 112 v=M.cells { s with e:=v }:=
 cE 102 rfl (cE 70 (by rw [ok.root.1];rfl) (cE 68 rfl (cE 36 (by rw [ok.obj.1];rfl) (by
  rw [List.set_append_left _ _ (by rw [fC ok];omega),man36 ok]))))
theorem set114 (v:Value):(M.cells s).set 114 v=M.cells { s with f:=v }:=
 cE 104 rfl (cE 72 (by rw [ok.root.1];rfl) (cE 70 rfl (cE 38 (by rw [ok.obj.1];rfl) (cE 1 (by rw [fC ok]) rfl))))
theorem at42:(M.cells s)[42]? = some s.d:=cQ 32 rfl (cQ 0 (by rw [ok.root.1];rfl) rfl)
theorem at112:(M.cells s)[112]? = some s.e:=
 cQ 102 rfl (cQ 70 (by rw [ok.root.1];rfl) (cQ 68 rfl (cQ 36 (by rw [ok.obj.1];rfl) (by
  rw [List.getElem?_append_left (by rw [fC ok];omega)]
  exact cQ 32 rfl (cQ 0 (by rw [ok.cp.1];rfl) rfl)))))
theorem at114:(M.cells s)[114]? = some s.f:=cQ 104 rfl (cQ 72 (by rw [ok.root.1];rfl) (cQ 70 rfl (cQ 38 (by rw [ok.obj.1];rfl) (cQ 1 (by rw [fC ok]) rfl))))
end
structure Sep (s:cP) (p q:Nat):Prop where
 ex : ∃ p1 p2 p3 p4 p5,p≤p1∧p1≤p2∧p2≤p3∧p3≤p4∧p4≤p5∧p5≤q∧In s.a p p1∧In s.b p1 p2∧In s.c p2 p3∧In s.d p3 p4∧In s.e p4 p5∧In s.f p5 q
theorem Sep.all {s:cP} {p q:Nat} (x:Sep s p q):In s.a p q∧In s.b p q∧In s.c p q∧In s.d p q∧In s.e p q∧In s.f p q:=by
 obtain ⟨p1,p2,p3,p4,p5,l1,l2,l3,l4,l5,l6,a,b,c,d,e,f⟩:=x.ex
 exact ⟨a.mono (by omega) (by omega),b.mono (by omega) (by omega),c.mono (by omega) (by omega),d.mono (by omega) (by omega),e.mono (by omega) (by omega),f.mono (by omega) (by omega)⟩
theorem Sep.off {s:cP} {p q:Nat} (x:Sep s p q) {B:Nat→Prop} (hB : ∀ b,B b→b<p):s.off B:=by
 obtain ⟨a,b,c,d,e,f⟩:=x.all
 rintro v (rfl|rfl|rfl|rfl|rfl|rfl) y hy hb
 ·have:=a y hy;have:=hB y hb;omega
 ·have:=b y hy;have:=hB y hb;omega
 ·have:=c y hy;have:=hB y hb;omega
 ·have:=d y hy;have:=hB y hb;omega
 ·have:=e y hy;have:=hB y hb;omega
 ·have:=f y hy;have:=hB y hb;omega
structure Bx (h0 h:ak) (z k:dA):Prop where
 bm:Old h0 h
 nx:h0.next+2≤h.next
 g:h.get h0.next=some k
 g2:h.get (h0.next+1)=some z
theorem Bx.mk0 (h:ak) (k z:dA):Bx h ((h.alloc k).alloc z) z k:=by
 have o1:Old h (h.alloc k):=Kept.alloc _ _ _
 have o2:Old (h.alloc k) ((h.alloc k).alloc z):=Kept.alloc _ _ _
 refine ⟨o1.trans o2,by rw [ak.cA,ak.cA];omega,o2.get (by rw [ak.aM,if_pos rfl]),by rw [ak.aM,ak.cA,if_pos rfl]⟩
theorem Bx.more {h0 h h':ak} {z k:dA} (x:Bx h0 h z k) (o:Old h h'):Bx h0 h' z k:=⟨x.bm.trans o,Nat.le_trans x.nx o.next,o.get x.g,o.get x.g2⟩
theorem Bx.put {h0 h:ak} {z k:dA} (x:Bx h0 h z k) {o:Nat} {v:Value} (ho:o<k.length) (hv:v.oneCell'=true∧v.cells = #[v]) :
  ∃ h',dH 1 (ptr h0.next o) v h=some (undef,h')∧Bx h0 h' z (k.set o v)∧Kept h h' (· = h0.next)∧h'.next=h.next:=by
 have hn:h.n0≤h0.next:=by rw [x.bm.n0];exact h0.bg
 have k1:Kept h (h.set h0.next (k.set o v)) (· = h0.next):=Kept.set hn x.g (.inr rfl)
 refine ⟨_,stN1_at x.g ho hn hv.2 hv.1,⟨x.bm.also k1 (fun d hd e=>by omega),x.nx,ak.cS hn x.g _,k1.getE x.g2 (by omega)⟩,k1,rfl⟩
theorem dn.past {h h':ak} {ks:List Kd} {v:Value} {n:Nat} {cs:List Value} {b p q:Nat} (x:dn h ks v n cs) (k:Kept h h' (· = b)) (hi:In v p q) (hb:b<p):dn h' ks v n cs:=
 x.dV k (fun y hy e=>by
   have:=hi y hy
   omega)
theorem own_stage {h0 h:ak} {z k:dA} {ks:List Kd} {v:Value} {n:Nat} {cs:List Value} (o by_:Nat) (B:Bx h0 h z k) (x:dn h0 ks v n cs) (hz:0<ks.length) (hn:n≤1000000) (hb:by_≤100) (ho:k[o]? = some v) :
  ∃ v' h1 h2,aK (ptr h0.next o) (h.alloc [])=some (v,h.alloc [])∧aO ks.length by_ (.slice (some ⟨h.next,0,none⟩) 0 0) v (h.alloc [])=some (v',h1)∧dH 1 (ptr h0.next o) v' h1=some (undef,h2) ∧
    Bx h0 h2 z (k.set o v')∧Kept h h2 (· = h0.next)∧dn h2 ks v' n cs∧In v' h.next h2.next:=by
 have hx:=x.bm B.bm
 obtain ⟨v',h1,e1,e2,e3,e4,_⟩:=app_new by_ hx hz hn hb
 obtain ⟨h2,f1,f2,f3,f4⟩:=(B.more e3).put (o:=o) (v:=v') (List.getElem?_eq_some_iff.1 ho).1 (bJ e2).2
 have hlt:=B.nx
 exact ⟨v',h1,h2,bf ((Kept.alloc h [] (fun _=>False)).getE B.g (fun h=>h)) ho (bJ x).1,e1,f1,f2,(e3.mono (fun _ _ h=>h.elim)).trans f3,e2.past f3 e4 (by omega),by rw [f4];exact e4⟩
theorem ld37 (v:Value) (h:ak):ld Tryz.prog 37 v h=bP 116 v h:=by
 unfold ld
 rw [show aggT Tryz.prog 37=some true by kernel_rfl,show cJ Tryz.prog 37=some 116 by kernel_rfl]
theorem res_msg {rs:List ResultVar} {n k:Nat} (hr:rs = [.cell k 37]) (hk:k<n) (x:Nat→Value) {h:ak} {v:Value} (e:bP 116 (x k) h=some (v,h)):ax Tryz.prog rs (aX n x) h=some (v,h):=by
 subst hr
 have hx:(aX n x).getD k undef=x k:=by
  unfold aX
  simp [hk]
 simp only [ax,dK,hx,ld37,e]
 rfl
theorem stN_whole {h:ak} {b:Nat} {k k':dA} (hk:h.get b=some k) (h0:h.n0≤b) {n:Nat} (hn:k.length=n) (hn':k'.length=n) (ho:aS k'=true):dH n (ptr b 0) (.agg k'.toArray) h=some (undef,h.set b k'):=by
 unfold dH ptr
 have hc:(Value.agg k'.toArray).cells=k'.toArray:=rfl
 simp only [hc,List.size_toArray,hn',if_true]
 unfold stL
 simp only [hk]
 rw [if_pos (by simp [ho,h0,hn,hn'])]
 have:bw k 0 k'=k':=by simp [bw,hn,hn']
 simp [this]
theorem Bx.out {h0 h:ak} {z:dA} {s:cP} {n:N6} {M:bD} (B:Bx h0 h z (M.cells s)) (hz:z.length=116) (x:SlV h s n M) (ok:M.Ok) {p q:Nat} (sp:Sep s p q) (hp:h0.next+2≤p) :
  ∃ h',bP 116 (ptr h0.next 0) h=some (.agg (M.cells s).toArray,h)∧dH 116 (ptr (h0.next+1) 0) (.agg (M.cells s).toArray) h=some (undef,h')∧bP 116 (ptr (h0.next+1) 0) h'=some (.agg (M.cells s).toArray,h')∧SlV h' s n M∧Old h0 h'∧h'.next=h.next:=by
 have hn:h.n0≤h0.next+1:=by rw [B.bm.n0];exact Nat.le_trans h0.bg (by omega)
 have c:=dE x ok
 have k1:Kept h (h.set (h0.next+1) (M.cells s)) (· = h0.next+1):=Kept.set hn B.g2 (.inr rfl)
 refine ⟨_,(msg_ld x ok B.g).all,stN_whole B.g2 hn hz c.2.2 c.2.1,(msg_ld x ok (ak.cS hn B.g2 _)).all,x.dV k1 (sp.off (fun b hb=>by omega)),B.bm.also k1 (fun d hd e=>by omega),rfl⟩
theorem is20:bB Tryz.prog 20 Tryz.f20:=⟨by kernel_rfl,by kernel_rfl,by kernel_rfl,by kernel_rfl⟩
theorem is18:bB Tryz.prog 18 Tryz.f18:=⟨by kernel_rfl,by kernel_rfl,by kernel_rfl,by kernel_rfl⟩
theorem results20:Tryz.f20.results.toList = [.cell 2 37]:=by kernel_rfl
theorem gtr3 (a k:Nat):bin Tryz.prog .gtr 3 (aN a) (.int .i64 (k:Int))=some (.bool (decide (k<a))):=by
 rw [aE]
 congr 2
 by_cases e:k<a
 ·rw [decide_eq_true e,decide_eq_true (by omega)]
 ·rw [decide_eq_false e,decide_eq_false (by omega)]
section
variable {h:ak} {s:cP} {n:N6} {M:bD} (hG:4≤h.n0) (x:SlV h s n M) (ok:M.Ok)
include hG x ok
theorem r18 : ∃ (r:Bool) (h':ak),CW 18 [.agg (M.cells s).toArray] h=some (.bool r,h')∧(r=false→n.Small)∧Old h h':=by
 have b1:=c9 h (M.cells s) (dE x ok).2.1
 have o1:Old h (h.alloc (M.cells s)):=Kept.alloc _ _ _
 have g1:(h.alloc (M.cells s)).get h.next=some (M.cells s):=by rw [ak.aM,if_pos rfl]
 generalize h.alloc (M.cells s)=h1 at *
 have A:=msg_ld x ok g1
 have key : ∃ r:Bool,t18 CW (.agg (M.cells s).toArray) h=some (.bool r,h1)∧(r=false→n.Small):=by
  have small:(n.a≤40∧n.b≤100∧n.c≤100∧n.d≤100∧n.e≤300∧n.f≤9000)→n.Small:=fun ⟨a,b,c,d,e,f⟩=>⟨by omega,by omega,by omega,by omega,by omega,by omega⟩
  have e1:bin Tryz.prog .gtr 3 (aN n.a) (.int .i64 40)=some (.bool (decide (40<n.a))):=gtr3 n.a 40
  have e2:bin Tryz.prog .gtr 3 (aN n.b) (.int .i64 100)=some (.bool (decide (100<n.b))):=gtr3 n.b 100
  have e3:bin Tryz.prog .gtr 3 (aN n.c) (.int .i64 100)=some (.bool (decide (100<n.c))):=gtr3 n.c 100
  have e4:bin Tryz.prog .gtr 3 (aN n.d) (.int .i64 100)=some (.bool (decide (100<n.d))):=gtr3 n.d 100
  have e5:bin Tryz.prog .gtr 3 (aN n.e) (.int .i64 300)=some (.bool (decide (300<n.e))):=gtr3 n.e 300
  have e6:bin Tryz.prog .gtr 3 (aN n.f) (.int .i64 9000)=some (.bool (decide (9000<n.f))):=gtr3 n.f 9000
  cases q0:decide (40<n.a) with
  |true=>exact ⟨true,by unfold t18;simp -implicitDefEqProofs only [b1, A.l6, x.a.len, e1, ah, aq, ar, sf, ai, if_true, ao, Nat.zero_add, q0],fun h=>by cases h⟩
  |false=>
   cases q1:decide (100<n.b) with
   |true=>exact ⟨true,by unfold t18;simp -implicitDefEqProofs only [b1, A.l6, A.l7, x.a.len, x.b.len, e1, e2, ah, aq, ar, sf, beq_self_eq_true, aj, ai, Bool.false_eq_true, if_false, if_true, ao, Nat.zero_add, q0, q1],fun h=>by cases h⟩
   |false=>
    cases q2:decide (100<n.c) with
    |true=>exact ⟨true,by unfold t18;simp -implicitDefEqProofs only [b1, A.l6, A.l7, A.l8, x.a.len, x.b.len, x.c.len, e1, e2, e3, ah, aq, ar, sf, beq_self_eq_true, aj, ai, Bool.false_eq_true, if_false, if_true, ao, Nat.zero_add, q0, q1, q2],fun h=>by cases h⟩
    |false=>
     cases q3:decide (100<n.d) with
     |true=>exact ⟨true,by unfold t18;simp -implicitDefEqProofs only [b1, A.l6, A.l7, A.l8, A.bF, x.a.len, x.b.len, x.c.len, x.d.len, e1, e2, e3, e4, ah, aq, ar, sf, beq_self_eq_true, aj, ai, Bool.false_eq_true, if_false, if_true, ao, Nat.zero_add, q0, q1, q2, q3],fun h=>by cases h⟩
     |false=>
      cases q4:decide (300<n.e) with
      |true=>exact ⟨true,by unfold t18;simp -implicitDefEqProofs only [b1, A.l6, A.l7, A.l8, A.bF, A.l112, x.a.len, x.b.len, x.c.len, x.d.len, x.e.len, e1, e2, e3, e4, e5, ah, aq, ar, sf, beq_self_eq_true, aj, ai, Bool.false_eq_true, if_false, if_true, ao, Nat.zero_add, Nat.reduceAdd, q0, q1, q2, q3, q4],fun h=>by cases h⟩
      |false=>
       cases q5:decide (9000<n.f) with
       |true=>exact ⟨true,by unfold t18;simp -implicitDefEqProofs only [b1, A.l6, A.l7, A.l8, A.bF, A.l112, A.aR, x.a.len, x.b.len, x.c.len, x.d.len, x.e.len, x.f.len, e1, e2, e3, e4, e5, e6, ah, aq, ar, beq_self_eq_true, aj, Bool.false_eq_true, if_false, ao, Nat.zero_add, Nat.reduceAdd, q0, q1, q2, q3, q4, q5],fun h=>by cases h⟩
       |false=>
        exact ⟨false,by unfold t18;simp -implicitDefEqProofs only [b1, A.l6, A.l7, A.l8, A.bF, A.l112, A.aR, x.a.len, x.b.len, x.c.len, x.d.len, x.e.len, x.f.len, e1, e2, e3, e4, e5, e6, ah, aq, ar, beq_self_eq_true, aj, Bool.false_eq_true, if_false, ao, Nat.zero_add, Nat.reduceAdd, q0, q1, q2, q3, q4, q5],fun _=>small ⟨by have:=of_decide_eq_false q0;omega,by have:=of_decide_eq_false q1;omega,by have:=of_decide_eq_false q2;omega,by have:=of_decide_eq_false q3;omega,by have:=of_decide_eq_false q4;omega,by have:=of_decide_eq_false q5;omega⟩⟩
 obtain ⟨r,k1,k2⟩:=key
 exact ⟨r,h1,aG is18 hG rfl ((t18_eq _ _ _).trans k1),k2,o1⟩
variable (sm:n.Small)
include sm
theorem r20 : ∃ (s':cP) (h':ak),CW 20 [.agg (M.cells s).toArray] h=some (.agg (M.cells s').toArray,h')∧SlV h' s' n M∧Old h h':=by
 have b1:=c9 h (M.cells s) (dE x ok).2.1
 have b2:fz Zl (h.alloc (M.cells s))=some (ptr (h.next+1) 0,(h.alloc (M.cells s)).alloc Zl):=rfl
 have B2:=Bx.mk0 h (M.cells s) Zl
 have hz:(Zl:dA).length=116:=rfl
 generalize (h.alloc (M.cells s)).alloc Zl=h2 at *
 obtain ⟨v1,p3,h3,a1,c1,d1,B3,K3,y1,I1⟩:=own_stage 6 16 B2 x.a (by decide) sm.a (by decide) rfl
 have c1:aO 2 16 _ _ _=_:=c1
 rw [set6] at B3
 obtain ⟨v2,p4,h4,a2,c2,d2,B4,K4,y2,I2⟩:=own_stage 7 1 B3 x.b (by decide) sm.b (by decide) rfl
 have c2:aO 1 1 _ _ _=_:=c2
 rw [set7] at B4
 obtain ⟨v3,p5,h5,a3,c3,d3,B5,K5,y3,I3⟩:=own_stage 8 1 B4 x.c (by decide) sm.c (by decide) rfl
 have c3:aO 1 1 _ _ _=_:=c3
 rw [set8] at B5
 obtain ⟨v4,p6,h6,a4,c4,d4,B6,K6,y4,I4⟩:=own_stage 42 88 B5 x.d (by decide) sm.d (by decide) (at42 ok)
 have c4:aO 39 88 _ _ _=_:=c4
 rw [set42 ok] at B6
 obtain ⟨v5,p7,h7,a5,c5,d5,B7,K7,y5,I5⟩:=own_stage 112 32 B6 x.e (by decide) sm.e (by decide) (at112 ok)
 have c5:aO 32 32 _ _ _=_:=c5
 rw [set112 ok] at B7
 obtain ⟨v6,p8,h8,a6,c6,d6,B8,K8,y6,I6⟩:=own_stage 114 1 B7 x.f (by decide) sm.f (by decide) (at114 ok)
 have c6:aO 1 1 _ _ _=_:=c6
 rw [set114 ok] at B8
 have nx:=B2.nx
 have m3:=K3.next
 have m4:=K4.next
 have m5:=K5.next
 have m6:=K6.next
 have m7:=K7.next
 have m8:=K8.next
 have z1:=(((((y1.past K4 I1 (by omega)).past K5 I1 (by omega)).past K6 I1 (by omega)).past K7 I1 (by omega)).past K8 I1 (by omega))
 have z2:=((((y2.past K5 I2 (by omega)).past K6 I2 (by omega)).past K7 I2 (by omega)).past K8 I2 (by omega))
 have z3:=(((y3.past K6 I3 (by omega)).past K7 I3 (by omega)).past K8 I3 (by omega))
 have z4:=((y4.past K7 I4 (by omega)).past K8 I4 (by omega))
 have z5:=(y5.past K8 I5 (by omega))
 have z6:=y6
 have X8:SlV h8 ⟨v1,v2,v3,v4,v5,v6⟩ n M:=⟨z1,z2,z3,z4,z5,z6⟩
 have S8:Sep ⟨v1,v2,v3,v4,v5,v6⟩ h2.next h8.next:=⟨h3.next,h4.next,h5.next,h6.next,h7.next,m3,m4,m5,m6,m7,m8,I1,I2,I3,I4,I5,I6⟩
 obtain ⟨h9,u1,u2,u3,X9,O9,_⟩:=B8.out hz X8 ok S8 (by omega)
 refine ⟨⟨v1,v2,v3,v4,v5,v6⟩,h9,aG is20 hG rfl ((t20_eq _ _ _).trans ?_),X9,O9⟩
 unfold t20
 simp -implicitDefEqProofs only [b1, b2, ah, aq, ao, Nat.zero_add, Nat.reduceAdd, bslM, bslB, bslRec, bslD, a1, c1, d1, a2, c2, d2, a3, c3, d3, a4, c4, d4, a5, c5, d5, a6, c6, d6, u1, u2]
 exact res_msg results20 (by decide) _ u3
end
end Go.Proofs.YtjghlcdidopcpaaGreatDoor

namespace Go.Proofs.YtjghlcdidopcpaaGreatDoor
open Go Go.Abs
section
abbrev u32 (n:Nat):Value := .int .u32 (n:Int)
abbrev u8 (n:Nat):Value := .int .u8 (n:Int)
theorem noHoles_u8 : ∀ l:List Nat,bA (l.map u8)=true
 | []=>rfl
 |x::l=>by
  have:=noHoles_u8 l
  simp only [bA,List.map_cons,List.all_cons] at this ⊢
  rw [this];rfl
theorem noHoles_part (l:List Nat) (o n:Nat):bA (((l.map u8).drop o).take n)=true:=by
 rw [←List.map_drop,←List.map_take];exact noHoles_u8 _
def nat8:Value→Option Nat
 | .int .u8 (.ofNat n)=>if n<256 then some n else none
 |_=>none
theorem nat8_eq {v:Value} {n:Nat} (h:nat8 v=some n):v=u8 n∧n<256:=by
 unfold nat8 at h
 split at h
 ·split at h
  ·cases h;exact ⟨rfl,by assumption⟩
  ·cases h
 ·cases h
def bytesOf:List Value→Option (List Nat)
 | []=>some []
 |v::l=>match nat8 v,bytesOf l with
  |some n,some r=>some (n::r)
  |_,_=>none
theorem bytesOf_eq : ∀ {l:List Value} {r:List Nat},bytesOf l=some r→l=r.map u8 ∧ ∀ n∈r,n<256
 | [],r,h=>by cases h;exact ⟨rfl,by simp⟩
 |v::l,r,h=>by
  unfold bytesOf at h
  split at h
  ·rename_i n r' h1 h2
   cases h
   obtain ⟨rfl,h3⟩:=nat8_eq h1
   obtain ⟨rfl,h4⟩:=bytesOf_eq h2
   refine ⟨rfl,fun m hm => ?_⟩
   rcases List.mem_cons.1 hm with rfl|hm
   ·exact h3
   ·exact h4 m hm
  ·cases h
theorem bytesOf_map : ∀ {r:List Nat},(∀ n∈r,n<256)→bytesOf (r.map u8)=some r
 | [],_=>rfl
 |n::r,h=>by
  have h1:nat8 (u8 n)=some n:=by
   show (if n<256 then some n else none)=some n
   rw [if_pos (h n List.mem_cons_self)]
  simp -implicitDefEqProofs only [List.map_cons,bytesOf,h1,bytesOf_map (r:=r) (fun m hm=>h m (List.mem_cons_of_mem _ hm))]
def aJ (a:Option Addr) (n:Nat) (h:ak):Option (List Nat):=(cj 1 n (.slice a n n) h).bind bytesOf
theorem ba {a:Option Addr} {n:Nat} {h:ak} {l:List Nat} (e:aJ a n h=some l) :
  l.length=n∧(∀ m∈l,m<256)∧(0<n → ∃ b off s k,a=some ⟨b,off,s⟩∧h.get b=some k∧off+n≤k.length ∧ ∀ i,i<n→k[off+i]? = some (u8 (l.getD i 0))):=by
 unfold aJ at e
 rw [Option.bind_eq_some_iff] at e
 obtain ⟨cs,h1,h2⟩:=e
 obtain ⟨rfl,h3⟩:=bytesOf_eq h2
 unfold cj at h1
 split at h1
 ·split at h1
  ·rename_i hn
   simp -implicitDefEqProofs only [Option.some.injEq] at h1
   have:l = []:=by cases l with|nil=>rfl|cons=>simp at h1
   subst this;subst hn
   exact ⟨rfl,h3,fun h=>absurd h (by omega)⟩
  ·cases h1
 ·rename_i b off s _ _ heq
  split at h1
  ·rename_i hn
   simp -implicitDefEqProofs only [Option.some.injEq] at h1
   have:l = []:=by cases l with|nil=>rfl|cons=>simp at h1
   subst this
   have:n=0:=by omega
   subst this
   exact ⟨rfl,h3,fun h=>absurd h (by omega)⟩
  ·split at h1
   ·rename_i k hk
    split at h1
    ·rename_i hl0
     have hl:=hl0.1
     rw [Nat.mul_one] at h1 hl
     simp -implicitDefEqProofs only [Option.some.injEq] at h1
     have hlen:l.length=n:=by
      have:=congrArg List.length h1
      simp -implicitDefEqProofs only [List.length_map,List.length_take,List.length_drop] at this
      omega
     refine ⟨hlen,h3,fun _=>⟨b,off,s,k,?_,hk,hl,?_⟩⟩
     ·cases heq;rfl
     ·intro i hi
      have h4:=congrArg (·[i]?) h1
      simp -implicitDefEqProofs only [List.getElem?_take,hi,if_true,List.getElem?_drop,List.getElem?_map] at h4
      rw [h4,List.getD_eq_getElem?_getD,List.getElem?_eq_getElem (by omega)]
      rfl
    ·cases h1
   ·cases h1
 ·cases (show Value.slice a n n = .string _ by assumption)
 ·cases h1
theorem sliceBytes_mono {a:Option Addr} {n:Nat} {h h':ak} {l:List Nat} (e:aJ a n h=some l) (hm : ∀ b k,h.get b=some k→h'.get b=some k):aJ a n h'=some l:=by
 unfold aJ at e ⊢
 rw [Option.bind_eq_some_iff] at e ⊢
 obtain ⟨cs,h1,h2⟩:=e
 refine ⟨cs,?_,h2⟩
 unfold cj at h1 ⊢
 split at h1
 ·exact h1
 ·split at h1
  ·rw [if_pos (by assumption)];exact h1
  ·rw [if_neg (by assumption)]
   split at h1
   ·rename_i k hk
    rw [hm _ _ hk];exact h1
   ·cases h1
 ·cases (show Value.slice a n n = .string _ by assumption)
 ·cases h1
end
section
section bytes
theorem one_u8 : ∀ l:List Nat,aS (l.map u8)=true
 | []=>rfl
 |x::l=>by
  have:=one_u8 l
  simp only [aS,List.map_cons,List.all_cons] at this ⊢
  rw [this];rfl
theorem firstA_of {a:Option Addr} {n c:Nat} {h:ak} {l:List Nat} (e:aJ a n h=some l) {m:Nat} (hm:m≤n):cj 1 m (.slice a n c) h=some ((l.take m).map u8):=by
 unfold aJ at e
 rw [Option.bind_eq_some_iff] at e
 obtain ⟨cs,h1,h2⟩:=e
 obtain ⟨rfl,h3⟩:=bytesOf_eq h2
 cases a with
 |none=>
  simp only [cj] at h1 ⊢
  split at h1
  ·cases l with
   |nil=>simp;omega
   |cons=>simp at h1
  ·cases h1
 |some x=>
  obtain ⟨b,off,s⟩:=x
  simp only [cj,Nat.mul_one] at h1 ⊢
  by_cases hm0:m=0
  ·subst hm0;simp
  ·rw [if_neg hm0]
   rw [if_neg (by omega)] at h1
   cases hk:h.get b with
   |none=>rw [hk] at h1;cases h1
   |some k=>
    rw [hk] at h1
    simp only at h1 ⊢
    split at h1
    ·rename_i hl0
     have hl1:=hl0.1
     simp only [Option.some.injEq] at h1
     have hk2:List.take m (List.drop off k)=(l.take m).map u8:=by rw [List.map_take,←h1,List.take_take,Nat.min_eq_left hm]
     rw [if_pos ⟨by omega,by rw [hk2];exact noHoles_u8 _⟩,hk2]
    ·cases h1
end bytes
end
section
def goodS (a:Option Addr) (n c:Nat):Bool:=Nat.ble n c&&(match a with|some ⟨_,_,some s⟩=>s==1|_=>true)
theorem sliceBytes_congr {a:Option Addr} {n:Nat} {h h':ak} (e : ∀ x,a=some x→h'.get x.block=h.get x.block):aJ a n h'=aJ a n h:=by
 unfold aJ cj
 cases a with
 |none=>rfl
 |some x=>simp only [e x rfl]
end
section
theorem dZ {h:ak} {b off n:Nat} {s:Option Nat} {l:List Nat} (hg:h.get b=some (l.map u8)) (hl:off+n≤l.length) (hb : ∀ x∈l,x<256):aJ (some ⟨b,off,s⟩) n h=some ((l.drop off).take n):=by
 unfold aJ
 rw [Option.bind_eq_some_iff]
 refine ⟨((l.drop off).take n).map u8,?_,bytesOf_map (fun y hy=>hb y (List.mem_of_mem_drop (List.mem_of_mem_take hy)))⟩
 simp only [cj,hg,Nat.mul_one]
 by_cases h0:n=0
 ·rw [if_pos h0,h0];rfl
 ·rw [if_neg h0,if_pos ⟨by simpa using hl,noHoles_part _ _ _⟩]
  simp
end
section
theorem bsl_bytes (h:ak):dD 1 (.int .u8 0) 0 [] h=some (.slice (some ⟨h.next,0,none⟩) 0 0,h.alloc []):=rfl
end
section
theorem append_fresh {g:ak} {E:Nat} {a:Option Addr} {n c:Nat} {l:List Nat} (hE:g.n0≤E) (hl:aJ a n g=some l) (hn:n≤21000) :
  ∃ b s c' g',aO 1 1 (.slice (some ⟨E,0,none⟩) 0 0) (.slice a n c) g=some (.slice (some ⟨b,0,s⟩) n c',g')∧aJ (some ⟨b,0,s⟩) n g'=some l∧goodS (some ⟨b,0,s⟩) n c'=true∧(b=E∨(b=g.next∧g.next<g'.next)) ∧
    g'.n0=g.n0∧g.next≤g'.next∧(∀ e,e<g.next→g'.get e=g.get e):=by
 obtain ⟨hlen,hb,_⟩:=ba hl
 have hf:=firstA_of hl (Nat.le_refl n) (c:=c)
 rw [List.take_of_length_le (by omega)] at hf
 have hcond:(!(aS (l.map u8)) || !(decide ((0+n)*1≤140737488355328)) || !(decide (0+n≤4611686018427387904))||decide ((l.map u8).length≠n*1))=false:=by
  rw [one_u8,decide_eq_true (by omega:(0+n)*1≤140737488355328),decide_eq_true (by omega:0+n≤4611686018427387904),decide_eq_false (by simp;omega)];rfl
 unfold aO
 simp only [lenA,hf]
 rw [if_neg (by rw [hcond];decide)]
 by_cases h0:n=0
 ·subst h0
  have:l = []:=List.length_eq_zero_iff.1 hlen
  subst this
  rw [if_pos (by omega),if_pos rfl]
  exact ⟨E,none,0,g,rfl,rfl,rfl,.inl rfl,rfl,Nat.le_refl _,fun _ _=>rfl⟩
 ·rw [if_neg (by omega)]
  have f0:cj 1 0 (.slice (some ⟨E,0,none⟩) 0 0) g=some []:=rfl
  simp only [f0]
  rw [if_neg (by simp)]
  refine ⟨g.next,some 1,0+n,g.alloc ([]++l.map u8),by rw [Nat.zero_add],?_,?_,.inr ⟨rfl,by simp⟩,rfl,by simp,?_⟩
  ·rw [List.nil_append,dZ (l:=l) (by rw [ak.aM,if_pos rfl]) (by omega) hb,List.drop_zero,List.take_of_length_le (by omega)]
  ·unfold goodS
   rw [Nat.zero_add]
   simp
  ·intro e he
   rw [ak.aM,if_neg (by omega)]
end
section
theorem Old.bytes {h h':ak} (o:Old h h') {a:Option Addr} {n:Nat} {l:List Nat} (e:aJ a n h=some l):aJ a n h'=some l:=sliceBytes_mono e fun _ _=>o.get
theorem r69b {a:Option Addr} {n c:Nat} {l:List Nat} {h:ak} (hG:4≤h.n0) (hl:aJ a n h=some l) (hn:n≤21000) :
  ∃ a' c' h',CW 69 [.slice a n c] h=some (.slice a' n c',h')∧aJ a' n h'=some l∧goodS a' n c'=true∧Old h h'∧(∀ y,a'=some y→h.next≤y.block∧y.block<h'.next)∧(a'.isNone=a.isNone):=by
 cases a with
 |none=>
  have h0:n=0:=by
   obtain ⟨h1,_,h3⟩:=ba hl
   by_cases hz:n=0
   ·exact hz
   ·obtain ⟨_,_,_,_,h4,_⟩:=h3 (by omega);cases h4
  subst h0
  refine ⟨none,0,h,aG is69 hG rfl ((t69_eq _ _ _).trans ?_),hl,rfl,Kept.refl _ _,fun y hy=>by (cases hy),rfl⟩
  unfold t69
  simp -implicitDefEqProofs only [ah,nil22,aq,Option.isNone_none]
 |some x=>
  have hl1:aJ (some x) n (h.alloc [])=some l:=sliceBytes_mono hl fun _ _ hc=>ak.fA hc _
  obtain ⟨b,s,c',g',e1,e2,e3,e4,e5,e6,e7⟩:=append_fresh (g:=h.alloc []) (E:=h.next) (c:=c) h.bg hl1 hn
  refine ⟨some ⟨b,0,s⟩,c',g',aG is69 hG rfl ((t69_eq _ _ _).trans ?_),e2,e3,(Kept.alloc h [] _).trans ⟨e5,e6,fun d hd _=>e7 d hd⟩,?_,rfl⟩
  ·unfold t69
   simp -implicitDefEqProofs only [ah,nil22,aq,Option.isNone_some,bsl_bytes,e1]
  ·intro y hy
   cases hy
   have hn1:(h.alloc []).next=h.next+1:=by simp
   show h.next≤b∧b<g'.next
   rcases e4 with e4|⟨e4,e8⟩
   ·omega
   ·omega
structure IsR (h:ak) (p r:Nat) (l:List Nat) (e:Int):Prop where
 ex : ∃ a n c,h.get r=some [.slice a n c,.int .i64 e]∧aJ a n h=some l∧goodS a n c=true ∧ ∀ y,a=some y→p≤y.block∧y.block<r
 n0:h.n0≤r
 len:l.length≤21000
 g4:4≤h.n0
 pr:p≤r
def be (l:List Nat):Nat:=l.foldl (fun v x=>v*256+x) 0
end
section
section
variable {p r:Nat} {l:List Nat} {h:ak} (R:IsR h p r l 0)
include R
end
end
end Go.Proofs.YtjghlcdidopcpaaGreatDoor

namespace Go.Proofs.YtjghlcdidopcpaaGreatDoor
open Go Go.Abs
attribute [local congr] aP
@[ext] structure Rd where
  l:List Nat
  e:Int
abbrev IsRd (h:ak) (p r:Nat) (s:Rd):Prop:=IsR h p r s.l s.e
section
variable {p r:Nat} {s:Rd} {h:ak} (R:IsRd h p r s)
include R
end
end Go.Proofs.YtjghlcdidopcpaaGreatDoor

namespace Go.Proofs.YtjghlcdidopcpaaGreatDoor
open Go Go.Abs
attribute [local congr] aP
section
variable {p r:Nat} {s:Rd} {h:ak} (R:IsRd h p r s)
include R
end
end Go.Proofs.YtjghlcdidopcpaaGreatDoor

