/-
  A part of the proof, spaces and names shortened by a program (a claim may hold 1,500,000 bytes).
  Conditions: as each theorem states.
-/
import Derived.Test.YtjghlcdidopcpaaGreatDoorG9
namespace Go.Proofs.YtjghlcdidopcpaaGreatDoor
open Go Go.Abs
attribute [local congr] aU
theorem sf:(some true==some false)=false:=rfl
theorem fs:(some false==some true)=false:=rfl
theorem eqI (t:TypeId) (k:IntKind) (a b:Int) : ∃ r:Bool,(r=true↔a=b)∧bin Tryz.prog .eql t (.int k a) (.int k b)=some (.bool r)∧bin Tryz.prog .neq t (.int k a) (.int k b)=some (.bool !r):=
 ⟨a==b,beq_iff_eq,az ..,ax ..⟩
theorem eqB (a b:Bool) : ∃ r:Bool,(r=true↔a=b)∧bin Tryz.prog .eql 4 (.bool a) (.bool b)=some (.bool r)∧bin Tryz.prog .neq 4 (.bool a) (.bool b)=some (.bool !r):=by
 refine ⟨a==b,beq_iff_eq,?_,?_⟩
 ·cases a<;>cases b<;>kernel_rfl
 ·cases a<;>cases b<;>kernel_rfl
theorem dh.first {h:aj} {ks:List Kd} {v:Value} {n:Nat} {cs:List Value} (x:dh h ks v n cs) (hz:0<ks.length):b0 ks.length n v h=some cs:=by
 have hl:=x.cells
 have hall:=x.typed.all
 obtain ⟨a,c,rfl,h1,h2,h3⟩:=x
 by_cases hn:n=0
 ·subst hn
  have:cs = []:=List.length_eq_zero_iff.1 (by omega)
  subst this
  cases a with
  |none=>rfl
  |some y=>
   unfold b0
   simp
 ·obtain ⟨b,off,s,k,rfl,h4,h5,h6⟩:=h3 (by omega)
  have:n*ks.length≠0:=Nat.mul_ne_zero hn (by omega)
  unfold b0
  simp only [h4,h6,if_neg this,if_pos (And.intro h5 hall.1)]
def strOf (l:List Nat):ByteArray:=⟨(l.map UInt8.ofNat).toArray⟩
def u8v (n:Nat):Value := .int .u8 (n:Int)
theorem mapM_asByte : ∀ {l:List Nat},(l.map u8v).mapM asByte=some (l.map UInt8.ofNat)
 | []=>rfl
 |n::l=>by
  have ih:=mapM_asByte (l:=l)
  rw [List.map_cons,List.mapM_cons,ih]
  rfl
theorem strOf_inj {a b:List Nat} (ha : ∀ x∈a,x<256) (hb : ∀ x∈b,x<256):((strOf a).toList==(strOf b).toList)=decide (a=b):=by
 have hl : ∀ l:List Nat,(strOf l).toList=l.map UInt8.ofNat:=fun l=>Go.ByteArray.toList_mk _
 have hinj : ∀ a b:List Nat,(∀ x∈a,x<256)→(∀ x∈b,x<256)→a.map UInt8.ofNat=b.map UInt8.ofNat→a=b:=by
  intro a
  induction a with
  |nil=>intro b _ _ h;simpa using h.symm
  |cons x a ih=>
   intro b ha hb h
   match b with
   | []=>simp at h
   |y::b=>
    rw [List.map_cons,List.map_cons,List.cons.injEq] at h
    have hx:=ha x List.mem_cons_self
    have hy:=hb y List.mem_cons_self
    have e:x=y:=by
     have:=congrArg UInt8.toNat h.1
     rw [UInt8.toNat_ofNat',UInt8.toNat_ofNat'] at this
     omega
    rw [e,ih b (fun z hz=>ha z (List.mem_cons_of_mem _ hz)) (fun z hz=>hb z (List.mem_cons_of_mem _ hz)) h.2]
 rw [hl,hl]
 by_cases e:a=b
 ·rw [decide_eq_true e,e];exact beq_self_eq_true _
 ·rw [decide_eq_false e,beq_eq_false_iff_ne]
  exact fun h=>e (hinj a b ha hb h)
theorem bytes_of {n:Nat} {cs:List Value} (h:dV [.u8] n cs) : ∃ l:List Nat,cs=l.map u8v ∧ ∀ x∈l,x<256:=by
 have key : ∀ v∈cs,∃ m:Nat,v=u8v m∧m<256:=fun v hv=>by
  obtain ⟨j,hj⟩:=List.mem_iff_getElem?.1 hv
  have hj2:=(List.getElem?_eq_some_iff.1 hj).1
  rw [h.1] at hj2
  have hl1:([Kd.u8]:List Kd).length=1:=rfl
  rw [hl1,Nat.mul_one] at hj2
  obtain ⟨w,hw,m,rfl,hm⟩:=(h.2 j hj2).2 0 .u8 rfl
  rw [hl1,Nat.mul_one,List.getElem?_take,if_pos (by omega),List.getElem?_drop,Nat.add_zero,hj] at hw
  exact ⟨m,Option.some.inj hw,hm⟩
 clear h
 induction cs with
 |nil=>exact ⟨[],rfl,fun x hx=>by cases hx⟩
 |cons v cs ih=>
  obtain ⟨m,rfl,hm⟩:=key v List.mem_cons_self
  obtain ⟨l,rfl,hl⟩:=ih (fun w hw=>key w (List.mem_cons_of_mem _ hw))
  exact ⟨m::l,rfl,fun x hx=>by
   rcases List.mem_cons.1 hx with rfl|hx
   ·exact hm
   ·exact hl x hx⟩
theorem cv_str {h:aj} {v:Value} {n:Nat} {l:List Nat} (x:dh h [.u8] v n (l.map u8v)):cvBS v h=some (.string (strOf l),h):=by
 have hf:=x.first (by decide)
 obtain ⟨a,c,rfl,_⟩:=x
 have hf:b0 1 n (.slice a n c) h=some (l.map u8v):=hf
 unfold cvBS bsR
 simp only [hf,mapM_asByte]
 rfl
theorem str_eq {h:aj} {v w:Value} {n m:Nat} {cs ds:List Value} (x:dh h [.u8] v n cs) (y:dh h [.u8] w m ds) : ∃ (r:Bool) (a b:Value),(r=true↔cs=ds)∧(∀ h',Old h h'→cvBS v h'=some (a,h')∧cvBS w h'=some (b,h'))∧bin Tryz.prog .eql 9 a b=some (.bool r)∧bin Tryz.prog .neq 9 a b=some (.bool !r):=by
 obtain ⟨l,rfl,hl⟩:=bytes_of x.typed
 obtain ⟨l',rfl,hl'⟩:=bytes_of y.typed
 refine ⟨decide (l=l'),.string (strOf l),.string (strOf l'),?_,fun h' o=>⟨cv_str (x.bA o),cv_str (y.bA o)⟩,?_,?_⟩
 ·rw [decide_eq_true_eq]
  refine ⟨fun e=>by rw [e],fun e => ?_⟩
  have hi : ∀ a b:Nat,u8v a=u8v b→a=b:=fun a b e=>by
   unfold u8v at e
   simp at e
   omega
  exact (List.map_inj_right (fun a b e=>hi a b e)).1 e
 ·rw [←strOf_inj hl hl'];rfl
 ·rw [←strOf_inj hl hl'];rfl
def ManEq (M M':bV):Prop:=M.gk=M'.gk∧M.gn=M'.gn∧M.gt=M'.gt∧M.gs=M'.gs∧M.dk=M'.dk∧M.pieces=M'.pieces
theorem is56:bO Tryz.prog 56 Tryz.f56:=⟨by kernel_rfl,by kernel_rfl,by kernel_rfl,by kernel_rfl⟩
theorem is45:bO Tryz.prog 45 Tryz.f45:=⟨by kernel_rfl,by kernel_rfl,by kernel_rfl,by kernel_rfl⟩
theorem is22:bO Tryz.prog 22 Tryz.f22:=⟨by kernel_rfl,by kernel_rfl,by kernel_rfl,by kernel_rfl⟩
theorem is15:bO Tryz.prog 15 Tryz.f15:=⟨by kernel_rfl,by kernel_rfl,by kernel_rfl,by kernel_rfl⟩
theorem results45:Tryz.f45.results.toList = [.tmp 4]:=by kernel_rfl
theorem b45_exit (C:au) (e:Env) (h:aj):b45_6 C 0 e h=k45_4 C e h:=rfl
def manInv (h0:aj) (p q n:Nat) (cs ds:List Value) (k:Nat) (y:Nat→Value) (g:aj):Prop:=
 ∃ i,i+k=n∧y 2=ptr p 0∧y 3=ptr q 0∧y 5=aH i∧g=h0 ∧ ∀ j,j<i→el 32 cs j=el 32 ds j
theorem round45 {h0:aj} {p q:Nat} {s s':cR} {M M':bV} {n:Nat} (A:ManLd h0 p s M) (B:ManLd h0 q s' M') (x:dh h0 dQ s.e n M.pieces) (y':dh h0 dQ s'.e n M'.pieces) (hn:n≤1000000) :
  ∀ k y g,manInv h0 p q n M.pieces M'.pieces k y g→dd 66 (manInv h0 p q n M.pieces M'.pieces) (eqFin h0 32 n M.pieces M'.pieces) k (t45l45_11010 CW y g):=by
 rintro k y g ⟨i,hik,y2,y3,y5,rfl,he⟩
 have hl:=x.len
 unfold t45l45_11010
 by_cases hi:i<n
 ·obtain ⟨b,o,qq,_,a1,_,_,_,a2,a3⟩:=x.at hi
  obtain ⟨b',o',q',_,b1,_,_,_,b2,b3⟩:=y'.at hi
  have a1:bB 32 s.e (aH i)=some (ptr b (o+i*32)):=a1
  have b1:bB 32 s'.e (aH i)=some (ptr b' (o'+i*32)):=b1
  have a2:bD 32 (ptr b (o+i*32)) g=some (.agg (el 32 M.pieces i).toArray,g):=a2
  have b2:bD 32 (ptr b' (o'+i*32)) g=some (.agg (el 32 M'.pieces i).toArray,g):=b2
  obtain ⟨r,r1,_,r2⟩:=eq28 _ _ a3 b3
  have r2:bin Tryz.prog .neq 28 (.agg (el 32 M.pieces i).toArray) (.agg (el 32 M'.pieces i).toArray)=some (.bool !r):=r2
  have r1:r=true↔el 32 M.pieces i=el 32 M'.pieces i:=r1
  simp -implicitDefEqProofs only [y2,y3,y5,al,Nat.zero_add,A.fa,B.fa,hl,dg,af,ak,decide_eq_true hi,a1,a2,b1,b2,r2]
  cases r with
  |true=>
   simp -implicitDefEqProofs only [Bool.not_true,af,ak,ee (show i+1≤9223372036854775807 by omega)]
   exact dd.next (k-1) (by omega) ⟨i+1,by omega,y2,y3,rfl,rfl,snoc_el he (r1.1 rfl)⟩
  |false=>
   simp -implicitDefEqProofs only [Bool.not_false]
   exact dd.ret ⟨rfl,.inl ⟨rfl,rfl,fun h=>by
    rw [h] at r1
    exact absurd (r1.2 rfl) (by decide)⟩⟩
 ·simp -implicitDefEqProofs only [y2,y5,al,Nat.zero_add,A.fa,hl,dg,af,ak,decide_eq_false hi]
  exact dd.out 0 ⟨rfl,.inr ⟨rfl,fun j hj=>he j (by omega)⟩⟩
section
variable {h:aj} {s s':cR} {n n':N6} {M M':bV} (hG:4≤h.n0) (x:SlV h s n M) (x':SlV h s' n' M') (ok:M.Ok) (ok':M'.Ok) (sm:n.Small)
include hG x x' ok ok' sm
theorem r56 : ∃ (r:Bool) (h':aj),CW 56 [.agg (M.eM s).toArray,.agg (M'.eM s').toArray] h=some (.bool r,h')∧(r=true↔ManEq M M')∧Old h h':=by
 have b1:=fz h (M.eM s) (man_ok x ok).2.1
 have o1:Old h (h.alloc (M.eM s)):=Kept.alloc _ _ _
 have g1:(h.alloc (M.eM s)).get h.next=some (M.eM s):=by rw [aj.aS,if_pos rfl]
 have n1:(h.alloc (M.eM s)).n0=h.n0:=o1.n0
 generalize h.alloc (M.eM s)=h1 at *
 have b2:=fz h1 (M'.eM s') (man_ok x' ok').2.1
 have o2:Old h1 (h1.alloc (M'.eM s')):=Kept.alloc _ _ _
 have g2:(h1.alloc (M'.eM s')).get h1.next=some (M'.eM s'):=by rw [aj.aS,if_pos rfl]
 have g12:=Old.get o2 g1
 have n2:(h1.alloc (M'.eM s')).n0=h.n0:=o2.n0.trans n1
 generalize h1.alloc (M'.eM s')=h2 at *
 have o12:Old h h2:=o1.trans o2
 have A:=man_ld x ok g12
 have B:=man_ld x' ok' g2
 have y:=x.bA o12
 have y':=x'.bA o12
 have hG2:4≤h2.n0:=by omega
 obtain ⟨r0,p0,q0,_⟩:=eqI 3 .i64 M.gk M'.gk
 obtain ⟨r1,p1,q1,_⟩:=eqI 3 .i64 M.gn M'.gn
 obtain ⟨r2,p2,q2,_⟩:=eqI 3 .i64 M.gt M'.gt
 obtain ⟨r3,p3,q3,_⟩:=eqI 3 .i64 M.gs M'.gs
 obtain ⟨r4,p4,q4,_⟩:=eq28 _ _ ok.dk ok'.dk
 obtain ⟨r5,q5,p5⟩:=r86 hG2 y.e y'.e sm.e
 have key : ∀ o,t56 CW (.agg (M.eM s).toArray) (.agg (M'.eM s').toArray) h=o → ∃ (r:Bool) (h':aj),o=some (.bool r,h')∧(r=true↔ManEq M M')∧Old h h':=by
  intro o ho
  unfold t56 at ho
  simp (maxSteps:=3000000) -implicitDefEqProofs only [af, ak, ao, al, Nat.zero_add, b1, b2, A.l0, B.l0, q0] at ho
  cases r0
  ·try simp (maxSteps:=3000000) -implicitDefEqProofs only [af, ao, fs, ah, Bool.false_eq_true, if_false] at ho
   exact ⟨false,h2,ho.symm,⟨fun h=>(by cases h),fun h=>(by have:=p0.2 h.1;cases this)⟩,o12⟩
  try simp (maxSteps:=3000000) -implicitDefEqProofs only [af, ak, ao, beq_self_eq_true, ai, if_true, A.l1, B.l1, q1] at ho
  cases r1
  ·try simp (maxSteps:=3000000) -implicitDefEqProofs only [af, ao, fs, ah, Bool.false_eq_true, if_false] at ho
   exact ⟨false,h2,ho.symm,⟨fun h=>(by cases h),fun h=>(by have:=p1.2 h.2.1;cases this)⟩,o12⟩
  try simp (maxSteps:=3000000) -implicitDefEqProofs only [af, ak, ao, beq_self_eq_true, ai, if_true, A.l2, B.l2, q2] at ho
  cases r2
  ·try simp (maxSteps:=3000000) -implicitDefEqProofs only [af, ao, fs, ah, Bool.false_eq_true, if_false] at ho
   exact ⟨false,h2,ho.symm,⟨fun h=>(by cases h),fun h=>(by have:=p2.2 h.2.2.1;cases this)⟩,o12⟩
  try simp (maxSteps:=3000000) -implicitDefEqProofs only [af, ak, ao, beq_self_eq_true, ai, if_true, A.l3, B.l3, q3] at ho
  cases r3
  ·try simp (maxSteps:=3000000) -implicitDefEqProofs only [af, ao, fs, ah, Bool.false_eq_true, if_false] at ho
   exact ⟨false,h2,ho.symm,⟨fun h=>(by cases h),fun h=>(by have:=p3.2 h.2.2.2.1;cases this)⟩,o12⟩
  try simp (maxSteps:=3000000) -implicitDefEqProofs only [af, ak, ao, beq_self_eq_true, ai, if_true, A.l4, B.l4, q4] at ho
  cases r4
  ·try simp (maxSteps:=3000000) -implicitDefEqProofs only [af, fs, ah, Bool.false_eq_true, if_false] at ho
   exact ⟨false,h2,ho.symm,⟨fun h=>(by cases h),fun h=>(by have:=p4.2 h.2.2.2.2.1;cases this)⟩,o12⟩
  try simp (maxSteps:=3000000) -implicitDefEqProofs only [af, beq_self_eq_true, ai, if_true, A.fa, B.fa, q5] at ho
  cases r5
  ·try simp (maxSteps:=3000000) -implicitDefEqProofs only [af,ak,ao,fs,sf,beq_self_eq_true,ai,ah,Bool.false_eq_true,if_false,if_true,al,Nat.zero_add,Bool.not_true,Bool.not_false,av,b1,b2,A.l0,A.l1,A.l2,A.l3,A.l4,A.fa,B.l0,B.l1,B.l2,B.l3,B.l4,B.fa,q0,q1,q2,q3,q4,q5] at ho
   exact ⟨false,h2,ho.symm,⟨fun h=>(by cases h),fun h=>(by have:=p5.2 h.2.2.2.2.2;cases this)⟩,o12⟩
  try simp (maxSteps:=3000000) -implicitDefEqProofs only [af,ak,ao,fs,sf,beq_self_eq_true,ai,ah,Bool.false_eq_true,if_false,if_true,al,Nat.zero_add,Bool.not_true,Bool.not_false,av,b1,b2,A.l0,A.l1,A.l2,A.l3,A.l4,A.fa,B.l0,B.l1,B.l2,B.l3,B.l4,B.fa,q0,q1,q2,q3,q4,q5] at ho
  exact ⟨true,h2,ho.symm,⟨fun _=>⟨p0.1 rfl,p1.1 rfl,p2.1 rfl,p3.1 rfl,p4.1 rfl,p5.1 rfl⟩,fun _=>rfl⟩,o12⟩
 obtain ⟨r,h',k1,k2,k3⟩:=key _ rfl
 exact ⟨r,h',aF is56 hG rfl ((t56_eq _ _ _ _).trans k1),k2,k3⟩
theorem r45 : ∃ (r:Bool) (h':aj),CW 45 [.agg (M.eM s).toArray,.agg (M'.eM s').toArray] h=some (.bool r,h')∧(r=true↔ManEq M M')∧Old h h':=by
 have b1:=fz h (M.eM s) (man_ok x ok).2.1
 have o1:Old h (h.alloc (M.eM s)):=Kept.alloc _ _ _
 have g1:(h.alloc (M.eM s)).get h.next=some (M.eM s):=by rw [aj.aS,if_pos rfl]
 have n1:(h.alloc (M.eM s)).n0=h.n0:=o1.n0
 generalize h.alloc (M.eM s)=h1 at *
 have b2:=fz h1 (M'.eM s') (man_ok x' ok').2.1
 have o2:Old h1 (h1.alloc (M'.eM s')):=Kept.alloc _ _ _
 have g2:(h1.alloc (M'.eM s')).get h1.next=some (M'.eM s'):=by rw [aj.aS,if_pos rfl]
 have g12:=Old.get o2 g1
 have n2:(h1.alloc (M'.eM s')).n0=h.n0:=o2.n0.trans n1
 generalize h1.alloc (M'.eM s')=h2 at *
 have o12:Old h h2:=o1.trans o2
 have A:=man_ld x ok g12
 have B:=man_ld x' ok' g2
 have y:=x.bA o12
 have y':=x'.bA o12
 have hG2:4≤h2.n0:=by omega
 obtain ⟨r0,p0,_,q0⟩:=eqI 3 .i64 M.gk M'.gk
 obtain ⟨r1,p1,_,q1⟩:=eqI 3 .i64 M.gn M'.gn
 obtain ⟨r2,p2,_,q2⟩:=eqI 3 .i64 M.gt M'.gt
 obtain ⟨r3,p3,_,q3⟩:=eqI 3 .i64 M.gs M'.gs
 obtain ⟨r4,p4,_,q4⟩:=eq28 _ _ ok.dk ok'.dk
 have lx:=y.e.cells
 have ly:=y'.e.cells
 have l1:=y.e.len
 have l2:=y'.e.len
 have h32:dQ.length=32:=rfl
 rw [h32] at lx ly
 obtain ⟨r5,p5⟩ : ∃ r5:Bool,r5=decide (n.e=n'.e):=⟨_,rfl⟩
 have q5:=neq3 n.e n'.e
 rw [←p5] at q5
 have key : ∀ o,t45 CW (.agg (M.eM s).toArray) (.agg (M'.eM s').toArray) h=o → ∃ (r:Bool) (h':aj),o=some (.bool r,h')∧(r=true↔ManEq M M')∧Old h h':=by
  intro o ho
  unfold t45 at ho
  simp (maxSteps:=3000000) -implicitDefEqProofs only [af, ak, ao, al, Nat.zero_add, b1, b2, A.l0, B.l0, q0] at ho
  cases r0
  ·try simp (maxSteps:=3000000) -implicitDefEqProofs only [af, ao, sf, ah, if_true, Bool.not_false] at ho
   exact ⟨false,h2,ho.symm,⟨fun h=>(by cases h),fun h=>(by have:=p0.2 h.1;cases this)⟩,o12⟩
  try simp (maxSteps:=3000000) -implicitDefEqProofs only [af, ak, ao, beq_self_eq_true, ai, Bool.false_eq_true, if_false, Bool.not_true, A.l1, B.l1, q1] at ho
  cases r1
  ·try simp (maxSteps:=3000000) -implicitDefEqProofs only [af, ao, sf, ah, if_true, Bool.not_false] at ho
   exact ⟨false,h2,ho.symm,⟨fun h=>(by cases h),fun h=>(by have:=p1.2 h.2.1;cases this)⟩,o12⟩
  try simp (maxSteps:=3000000) -implicitDefEqProofs only [af, ak, ao, beq_self_eq_true, ai, Bool.false_eq_true, if_false, Bool.not_true, A.l2, B.l2, q2] at ho
  cases r2
  ·try simp (maxSteps:=3000000) -implicitDefEqProofs only [af, ao, sf, ah, if_true, Bool.not_false] at ho
   exact ⟨false,h2,ho.symm,⟨fun h=>(by cases h),fun h=>(by have:=p2.2 h.2.2.1;cases this)⟩,o12⟩
  try simp (maxSteps:=3000000) -implicitDefEqProofs only [af, ak, ao, beq_self_eq_true, ai, Bool.false_eq_true, if_false, Bool.not_true, A.l3, B.l3, q3] at ho
  cases r3
  ·try simp (maxSteps:=3000000) -implicitDefEqProofs only [af, ao, sf, ah, if_true, Bool.not_false] at ho
   exact ⟨false,h2,ho.symm,⟨fun h=>(by cases h),fun h=>(by have:=p3.2 h.2.2.2.1;cases this)⟩,o12⟩
  try simp (maxSteps:=3000000) -implicitDefEqProofs only [af, ak, ao, beq_self_eq_true, ai, Bool.false_eq_true, if_false, Bool.not_true, A.l4, B.l4, q4] at ho
  cases r4
  ·try simp (maxSteps:=3000000) -implicitDefEqProofs only [af, sf, ah, if_true, Bool.not_false] at ho
   exact ⟨false,h2,ho.symm,⟨fun h=>(by cases h),fun h=>(by have:=p4.2 h.2.2.2.2.1;cases this)⟩,o12⟩
  try simp (maxSteps:=3000000) -implicitDefEqProofs only [af, ak, beq_self_eq_true, ai, Bool.false_eq_true, if_false, Bool.not_true, A.fa, B.fa, l1, l2, q5] at ho
  cases r5
  ·simp (maxSteps:=3000000) -implicitDefEqProofs only [Bool.not_false] at ho
   exact ⟨false,h2,ho.symm,⟨fun h=>(by cases h),fun h=>by
    have:=h.2.2.2.2.2
    rw [this,ly] at lx
    have:=Nat.eq_of_mul_eq_mul_right (by decide) lx
    rw [decide_eq_true this.symm] at p5
    cases p5⟩,o12⟩
  simp (maxSteps:=3000000) -implicitDefEqProofs only [Bool.not_true] at ho
  have hne:n.e=n'.e:=of_decide_eq_true p5.symm
  rw [←ho]
  refine bY (Q:=fun o:Out => ∃ (r:Bool) (h':aj),o=some (Value.bool r,h')∧(r=true↔ManEq M M')∧Old h h') (bZ (t45l45_11010_eq CW) (round45 A B y.e (hne▸y'.e) sm.e) n.e (by have:rounds=18446744073709551616:=rfl;have:=sm.e;omega)
   ⟨0,Nat.zero_add _,rfl,rfl,rfl,rfl,fun j hj=>absurd hj (Nat.not_lt_zero j)⟩) ?_
  rintro ex z g ⟨rfl,⟨rfl,z4,hd⟩|⟨rfl,he⟩⟩
  ·rw [dG,fG (t:=4) results45 (by decide),z4]
   exact ⟨false,g,rfl,⟨fun h=>(by cases h),fun h=>absurd h.2.2.2.2.2 hd⟩,o12⟩
  ·simp -implicitDefEqProofs only [bE,b45_exit,t45k45_4_eq]
   unfold t45k45_4
   simp -implicitDefEqProofs only [af]
   exact ⟨true,g,rfl,⟨fun _=>⟨p0.1 rfl,p1.1 rfl,p2.1 rfl,p3.1 rfl,p4.1 rfl,els_eq (by decide) lx (hne▸ly) he⟩,fun _=>rfl⟩,o12⟩
 obtain ⟨r,h',k1,k2,k3⟩:=key _ rfl
 exact ⟨r,h',aF is45 hG rfl ((t45_eq _ _ _ _).trans k1),k2,k3⟩
set_option maxRecDepth 100000 in
set_option maxHeartbeats 4000000 in
theorem r22 : ∃ (r:Bool) (h':aj),CW 22 [.agg (M.cells s).toArray,.agg (M'.cells s').toArray] h=some (.bool r,h')∧(r=true↔M=M')∧Old h h':=by
 have b1:=fz h (M.cells s) (cP x ok).2.1
 have o1:Old h (h.alloc (M.cells s)):=Kept.alloc _ _ _
 have g1:(h.alloc (M.cells s)).get h.next=some (M.cells s):=by rw [aj.aS,if_pos rfl]
 have n1:(h.alloc (M.cells s)).n0=h.n0:=o1.n0
 generalize h.alloc (M.cells s)=h1 at *
 have b2:=fz h1 (M'.cells s') (cP x' ok').2.1
 have o2:Old h1 (h1.alloc (M'.cells s')):=Kept.alloc _ _ _
 have g2:(h1.alloc (M'.cells s')).get h1.next=some (M'.cells s'):=by rw [aj.aS,if_pos rfl]
 have g12:=Old.get o2 g1
 have n2:(h1.alloc (M'.cells s')).n0=h.n0:=o2.n0.trans n1
 generalize h1.alloc (M'.cells s')=h2 at *
 have o12:Old h h2:=o1.trans o2
 have A:=msg_ld x ok g12
 have B:=msg_ld x' ok' g2
 have y:=x.bA o12
 have y':=x'.bA o12
 have hG2:4≤h2.n0:=by omega
 obtain ⟨r0,p0,q0,_⟩:=eqI 24 .u8 M.kind M'.kind
 obtain ⟨r1,p1,q1,_⟩:=eqI 3 .i64 M.from_ M'.from_
 obtain ⟨r2,p2,q2,_⟩:=eqI 3 .i64 M.to_ M'.to_
 obtain ⟨r3,p3,q3,_⟩:=eqI 25 .u64 M.seq M'.seq
 obtain ⟨r4,p4,q4,_⟩:=eqI 3 .i64 M.origin M'.origin
 obtain ⟨r5,p5,q5,_⟩:=eqI 3 .i64 M.target M'.target
 obtain ⟨r6,q6,p6⟩:=r53 hG2 y.a y'.a sm.a
 obtain ⟨r7,q7,p7⟩:=r54 hG2 y.b y'.b sm.b
 obtain ⟨r8,q8,p8⟩:=r54 hG2 y.c y'.c sm.c
 obtain ⟨r9,p9,q9,_⟩:=eqI 3 .i64 M.count M'.count
 obtain ⟨r10,p10,q10,_⟩:=eq28 _ _ ok.root ok'.root
 obtain ⟨r11,q11,p11⟩:=r55 hG2 y.d y'.d sm.d
 obtain ⟨r12,p12,q12,_⟩:=eqB M.want M'.want
 obtain ⟨r13,p13,ew,_⟩:=eq28 _ _ ok.obj ok'.obj
 obtain ⟨r14,h3,q14,p14,o3⟩:=r56 hG2 y y' ok ok' sm
 have o13:Old h h3:=o12.trans o3
 have A3:=msg_ld x ok (Old.get o3 g12)
 have B3:=msg_ld x' ok' (Old.get o3 g2)
 have hG3:4≤h3.n0:=by have:=o3.n0;omega
 obtain ⟨r15,p15,q15,_⟩:=eqI 3 .i64 M.cN M'.cN
 obtain ⟨r16,q16,p16⟩:=r54 hG3 (y.f.bA o3) (y'.f.bA o3) sm.f
 obtain ⟨r17,p17,q17,_⟩:=eqI 35 .i64 M.code M'.code
 have key : ∀ o,t22 CW (.agg (M.cells s).toArray) (.agg (M'.cells s').toArray) h=o → ∃ (r:Bool) (h':aj),o=some (.bool r,h')∧(r=true↔M=M')∧Old h h':=by
  intro o ho
  unfold t22 at ho
  simp (maxSteps:=3000000) -implicitDefEqProofs only [af, ak, ao, al, Nat.zero_add, b1, b2, A.l0, B.l0, Nat.add_zero, q0] at ho
  cases r0
  ·try simp (maxSteps:=3000000) -implicitDefEqProofs only [af, ao, fs, ah, Bool.false_eq_true, if_false] at ho
   exact ⟨false,h2,ho.symm,⟨fun h=>(by cases h),fun h=>(by have:=p0.2 (congrArg bV.kind h);cases this)⟩,o12⟩
  try simp (maxSteps:=3000000) -implicitDefEqProofs only [af, ak, ao, beq_self_eq_true, ai, if_true, A.l1, B.l1, q1] at ho
  cases r1
  ·try simp (maxSteps:=3000000) -implicitDefEqProofs only [af, ao, fs, ah, Bool.false_eq_true, if_false] at ho
   exact ⟨false,h2,ho.symm,⟨fun h=>(by cases h),fun h=>(by have:=p1.2 (congrArg bV.from_ h);cases this)⟩,o12⟩
  try simp (maxSteps:=3000000) -implicitDefEqProofs only [af, ak, ao, beq_self_eq_true, ai, if_true, A.l2, B.l2, q2] at ho
  cases r2
  ·try simp (maxSteps:=3000000) -implicitDefEqProofs only [af, ao, fs, ah, Bool.false_eq_true, if_false] at ho
   exact ⟨false,h2,ho.symm,⟨fun h=>(by cases h),fun h=>(by have:=p2.2 (congrArg bV.to_ h);cases this)⟩,o12⟩
  try simp (maxSteps:=3000000) -implicitDefEqProofs only [af, ak, ao, beq_self_eq_true, ai, if_true, A.l3, B.l3, q3] at ho
  cases r3
  ·try simp (maxSteps:=3000000) -implicitDefEqProofs only [af, ao, fs, ah, Bool.false_eq_true, if_false] at ho
   exact ⟨false,h2,ho.symm,⟨fun h=>(by cases h),fun h=>(by have:=p3.2 (congrArg bV.seq h);cases this)⟩,o12⟩
  try simp (maxSteps:=3000000) -implicitDefEqProofs only [af, ak, ao, beq_self_eq_true, ai, if_true, A.l4, B.l4, q4] at ho
  cases r4
  ·try simp (maxSteps:=3000000) -implicitDefEqProofs only [af, ao, fs, ah, Bool.false_eq_true, if_false] at ho
   exact ⟨false,h2,ho.symm,⟨fun h=>(by cases h),fun h=>(by have:=p4.2 (congrArg bV.origin h);cases this)⟩,o12⟩
  try simp (maxSteps:=3000000) -implicitDefEqProofs only [af, ak, ao, beq_self_eq_true, ai, if_true, A.l5, B.l5, q5] at ho
  cases r5
  ·try simp (maxSteps:=3000000) -implicitDefEqProofs only [af, ao, fs, ah, Bool.false_eq_true, if_false] at ho
   exact ⟨false,h2,ho.symm,⟨fun h=>(by cases h),fun h=>(by have:=p5.2 (congrArg bV.target h);cases this)⟩,o12⟩
  try simp (maxSteps:=3000000) -implicitDefEqProofs only [af, ao, beq_self_eq_true, ai, if_true, A.l6, B.l6, q6] at ho
  cases r6
  ·try simp (maxSteps:=3000000) -implicitDefEqProofs only [af, ao, fs, ah, Bool.false_eq_true, if_false] at ho
   exact ⟨false,h2,ho.symm,⟨fun h=>(by cases h),fun h=>(by have:=p6.2 (congrArg bV.table h);cases this)⟩,o12⟩
  try simp (maxSteps:=3000000) -implicitDefEqProofs only [af, ao, beq_self_eq_true, ai, if_true, A.l7, B.l7, q7] at ho
  cases r7
  ·try simp (maxSteps:=3000000) -implicitDefEqProofs only [af, ao, fs, ah, Bool.false_eq_true, if_false] at ho
   exact ⟨false,h2,ho.symm,⟨fun h=>(by cases h),fun h=>(by have:=p7.2 (congrArg bV.low h);cases this)⟩,o12⟩
  try simp (maxSteps:=3000000) -implicitDefEqProofs only [af, ao, beq_self_eq_true, ai, if_true, A.l8, B.l8, q8] at ho
  cases r8
  ·try simp (maxSteps:=3000000) -implicitDefEqProofs only [af, ao, fs, ah, Bool.false_eq_true, if_false] at ho
   exact ⟨false,h2,ho.symm,⟨fun h=>(by cases h),fun h=>(by have:=p8.2 (congrArg bV.high h);cases this)⟩,o12⟩
  try simp (maxSteps:=3000000) -implicitDefEqProofs only [af, ak, ao, beq_self_eq_true, ai, if_true, A.l9, B.l9, q9] at ho
  cases r9
  ·try simp (maxSteps:=3000000) -implicitDefEqProofs only [af, ao, fs, ah, Bool.false_eq_true, if_false] at ho
   exact ⟨false,h2,ho.symm,⟨fun h=>(by cases h),fun h=>(by have:=p9.2 (congrArg bV.count h);cases this)⟩,o12⟩
  try simp (maxSteps:=3000000) -implicitDefEqProofs only [af, ak, ao, beq_self_eq_true, ai, if_true, A.cj, B.cj, q10] at ho
  cases r10
  ·try simp (maxSteps:=3000000) -implicitDefEqProofs only [af, ao, fs, ah, Bool.false_eq_true, if_false] at ho
   exact ⟨false,h2,ho.symm,⟨fun h=>(by cases h),fun h=>(by have:=p10.2 (congrArg bV.root h);cases this)⟩,o12⟩
  try simp (maxSteps:=3000000) -implicitDefEqProofs only [af, ao, beq_self_eq_true, ai, if_true, A.bW, B.bW, q11] at ho
  cases r11
  ·try simp (maxSteps:=3000000) -implicitDefEqProofs only [af, ao, fs, ah, Bool.false_eq_true, if_false] at ho
   exact ⟨false,h2,ho.symm,⟨fun h=>(by cases h),fun h=>(by have:=p11.2 (congrArg bV.cp h);cases this)⟩,o12⟩
  try simp (maxSteps:=3000000) -implicitDefEqProofs only [af, ak, ao, beq_self_eq_true, ai, if_true, A.cw, B.cw, q12] at ho
  cases r12
  ·try simp (maxSteps:=3000000) -implicitDefEqProofs only [af, ao, fs, ah, Bool.false_eq_true, if_false] at ho
   exact ⟨false,h2,ho.symm,⟨fun h=>(by cases h),fun h=>(by have:=p12.2 (congrArg bV.want h);cases this)⟩,o12⟩
  try simp (maxSteps:=3000000) -implicitDefEqProofs only [af, ak, ao, beq_self_eq_true, ai, if_true, A.cu, B.cu, ew] at ho
  cases r13
  ·try simp (maxSteps:=3000000) -implicitDefEqProofs only [af, ao, fs, ah, Bool.false_eq_true, if_false] at ho
   exact ⟨false,h2,ho.symm,⟨fun h=>(by cases h),fun h=>(by have:=p13.2 (congrArg bV.obj h);cases this)⟩,o12⟩
  try simp (maxSteps:=3000000) -implicitDefEqProofs only [af, ao, beq_self_eq_true, ai, if_true, A.cg, B.cg, q14] at ho
  cases r14
  ·try simp (maxSteps:=3000000) -implicitDefEqProofs only [af, ao, fs, ah, Bool.false_eq_true, if_false] at ho
   exact ⟨false,h3,ho.symm,⟨fun h=>(by cases h),fun h=>(by have:=p14.2 (by rw [h];exact ⟨rfl,rfl,rfl,rfl,rfl,rfl⟩);cases this)⟩,o13⟩
  try simp (maxSteps:=3000000) -implicitDefEqProofs only [af, ak, ao, beq_self_eq_true, ai, if_true, al, A3.aW, B3.aW, Nat.add_zero, q15] at ho
  cases r15
  ·try simp (maxSteps:=3000000) -implicitDefEqProofs only [af, ao, fs, ah, Bool.false_eq_true, if_false] at ho
   exact ⟨false,h3,ho.symm,⟨fun h=>(by cases h),fun h=>(by have:=p15.2 (congrArg bV.cN h);cases this)⟩,o13⟩
  try simp (maxSteps:=3000000) -implicitDefEqProofs only [af, ak, ao, beq_self_eq_true, ai, if_true, al, A3.aX, B3.aX, q16] at ho
  cases r16
  ·try simp (maxSteps:=3000000) -implicitDefEqProofs only [af, fs, ah, Bool.false_eq_true, if_false] at ho
   exact ⟨false,h3,ho.symm,⟨fun h=>(by cases h),fun h=>(by have:=p16.2 (congrArg bV.data h);cases this)⟩,o13⟩
  try simp (maxSteps:=3000000) -implicitDefEqProofs only [af, ak, beq_self_eq_true, ai, if_true, A3.aY, B3.aY, q17] at ho
  cases r17
  ·try simp (maxSteps:=3000000) -implicitDefEqProofs only [af,ak,ao,fs,sf,beq_self_eq_true,ai,ah,Bool.false_eq_true,if_false,if_true,al,Nat.zero_add,Bool.not_true,Bool.not_false,av,b1,b2,A.l0,A.l1,A.l2,A.l3,A.l4,A.l5,A.l6,A.l7,A.l8,A.l9,A.cj,A.bW,A.cw,A.cu,A.cg,B.l0,B.l1,B.l2,B.l3,B.l4,B.l5,B.l6,B.l7,B.l8,B.l9,B.cj,B.bW,B.cw,B.cu,B.cg,A3.aW,A3.aX,A3.aY,B3.aW,B3.aX,B3.aY,Nat.add_zero,q0,q1,q2,q3,q4,q5,q6,q7,q8,q9,q10,q11,q12,ew,q14,q15,q16,q17] at ho
   exact ⟨false,h3,ho.symm,⟨fun h=>(by cases h),fun h=>(by have:=p17.2 (congrArg bV.code h);cases this)⟩,o13⟩
  try simp (maxSteps:=3000000) -implicitDefEqProofs only [af,ak,ao,fs,sf,beq_self_eq_true,ai,ah,Bool.false_eq_true,if_false,if_true,al,Nat.zero_add,Bool.not_true,Bool.not_false,av,b1,b2,A.l0,A.l1,A.l2,A.l3,A.l4,A.l5,A.l6,A.l7,A.l8,A.l9,A.cj,A.bW,A.cw,A.cu,A.cg,B.l0,B.l1,B.l2,B.l3,B.l4,B.l5,B.l6,B.l7,B.l8,B.l9,B.cj,B.bW,B.cw,B.cu,B.cg,A3.aW,A3.aX,A3.aY,B3.aW,B3.aX,B3.aY,Nat.add_zero,q0,q1,q2,q3,q4,q5,q6,q7,q8,q9,q10,q11,q12,ew,q14,q15,q16,q17] at ho
  obtain ⟨m1,m2,m3,m4,m5,m6⟩:=p14.1 rfl
  exact ⟨true,h3,ho.symm,⟨fun _=>bV.ext (p0.1 rfl) (p1.1 rfl) (p2.1 rfl) (p3.1 rfl) (p4.1 rfl) (p5.1 rfl) (p9.1 rfl) (p10.1 rfl) (p12.1 rfl) (p13.1 rfl) m1 m2 m3 m4 m5 (p15.1 rfl) (p17.1 rfl) (p6.1 rfl) (p7.1 rfl) (p8.1 rfl) (p11.1 rfl) m6 (p16.1 rfl),fun _=>rfl⟩,o13⟩
 obtain ⟨r,h',k1,k2,k3⟩:=key _ rfl
 exact ⟨r,h',aF is22 hG rfl ((t22_eq _ _ _ _).trans k1),k2,k3⟩
set_option maxRecDepth 100000 in
set_option maxHeartbeats 4000000 in
theorem r15 : ∃ (r:Bool) (h':aj),CW 15 [.agg (M.cells s).toArray,.agg (M'.cells s').toArray] h=some (.bool r,h')∧(r=true↔M=M')∧Old h h':=by
 have b1:=fz h (M.cells s) (cP x ok).2.1
 have o1:Old h (h.alloc (M.cells s)):=Kept.alloc _ _ _
 have g1:(h.alloc (M.cells s)).get h.next=some (M.cells s):=by rw [aj.aS,if_pos rfl]
 have n1:(h.alloc (M.cells s)).n0=h.n0:=o1.n0
 generalize h.alloc (M.cells s)=h1 at *
 have b2:=fz h1 (M'.cells s') (cP x' ok').2.1
 have o2:Old h1 (h1.alloc (M'.cells s')):=Kept.alloc _ _ _
 have g2:(h1.alloc (M'.cells s')).get h1.next=some (M'.cells s'):=by rw [aj.aS,if_pos rfl]
 have g12:=Old.get o2 g1
 have n2:(h1.alloc (M'.cells s')).n0=h.n0:=o2.n0.trans n1
 generalize h1.alloc (M'.cells s')=h2 at *
 have o12:Old h h2:=o1.trans o2
 have A:=msg_ld x ok g12
 have B:=msg_ld x' ok' g2
 have y:=x.bA o12
 have y':=x'.bA o12
 have hG2:4≤h2.n0:=by omega
 obtain ⟨r0,p0,_,q0⟩:=eqI 24 .u8 M.kind M'.kind
 obtain ⟨r1,p1,_,q1⟩:=eqI 3 .i64 M.from_ M'.from_
 obtain ⟨r2,p2,_,q2⟩:=eqI 3 .i64 M.to_ M'.to_
 obtain ⟨r3,p3,_,q3⟩:=eqI 25 .u64 M.seq M'.seq
 obtain ⟨r4,p4,_,q4⟩:=eqI 3 .i64 M.origin M'.origin
 obtain ⟨r5,p5,_,q5⟩:=eqI 3 .i64 M.target M'.target
 obtain ⟨r6,q6,p6⟩:=r43 hG2 y.a y'.a sm.a
 obtain ⟨r7,u7,v7,p7,w7,_,q7⟩:=str_eq y.b y'.b
 obtain ⟨r8,u8,v8,p8,w8,_,q8⟩:=str_eq y.c y'.c
 obtain ⟨w7,w7'⟩:=w7 h2 (Kept.refl _ _)
 obtain ⟨w8,w8'⟩:=w8 h2 (Kept.refl _ _)
 obtain ⟨r9,p9,_,q9⟩:=eqI 3 .i64 M.count M'.count
 obtain ⟨r10,p10,_,q10⟩:=eq28 _ _ ok.root ok'.root
 obtain ⟨r11,q11,p11⟩:=r44 hG2 y.d y'.d sm.d
 obtain ⟨r12,p12,_,q12⟩:=eqB M.want M'.want
 obtain ⟨r13,p13,ew,_⟩:=eq28 _ _ ok.obj ok'.obj
 obtain ⟨r14,h3,q14,p14,o3⟩:=r45 hG2 y y' ok ok' sm
 have o13:Old h h3:=o12.trans o3
 have A3:=msg_ld x ok (Old.get o3 g12)
 have B3:=msg_ld x' ok' (Old.get o3 g2)
 have hG3:4≤h3.n0:=by have:=o3.n0;omega
 obtain ⟨r15,p15,q15,_⟩:=eqI 3 .i64 M.cN M'.cN
 obtain ⟨r16,u16,v16,p16,w16,q16,_⟩:=str_eq y.f y'.f
 obtain ⟨w16,w16'⟩:=w16 h3 o3
 obtain ⟨r17,p17,q17,_⟩:=eqI 35 .i64 M.code M'.code
 have key : ∀ o,t15 CW (.agg (M.cells s).toArray) (.agg (M'.cells s').toArray) h=o → ∃ (r:Bool) (h':aj),o=some (.bool r,h')∧(r=true↔M=M')∧Old h h':=by
  intro o ho
  unfold t15 at ho
  simp (maxSteps:=3000000) -implicitDefEqProofs only [af, ak, ao, al, Nat.zero_add, b1, b2, A.l0, B.l0, Nat.add_zero, q0] at ho
  cases r0
  ·try simp (maxSteps:=3000000) -implicitDefEqProofs only [af, ao, sf, ah, if_true, Bool.not_false] at ho
   exact ⟨false,h2,ho.symm,⟨fun h=>(by cases h),fun h=>(by have:=p0.2 (congrArg bV.kind h);cases this)⟩,o12⟩
  try simp (maxSteps:=3000000) -implicitDefEqProofs only [af, ak, ao, beq_self_eq_true, ai, Bool.false_eq_true, if_false, Bool.not_true, A.l1, B.l1, q1] at ho
  cases r1
  ·try simp (maxSteps:=3000000) -implicitDefEqProofs only [af, ao, sf, ah, if_true, Bool.not_false] at ho
   exact ⟨false,h2,ho.symm,⟨fun h=>(by cases h),fun h=>(by have:=p1.2 (congrArg bV.from_ h);cases this)⟩,o12⟩
  try simp (maxSteps:=3000000) -implicitDefEqProofs only [af, ak, ao, beq_self_eq_true, ai, Bool.false_eq_true, if_false, Bool.not_true, A.l2, B.l2, q2] at ho
  cases r2
  ·try simp (maxSteps:=3000000) -implicitDefEqProofs only [af, ao, sf, ah, if_true, Bool.not_false] at ho
   exact ⟨false,h2,ho.symm,⟨fun h=>(by cases h),fun h=>(by have:=p2.2 (congrArg bV.to_ h);cases this)⟩,o12⟩
  try simp (maxSteps:=3000000) -implicitDefEqProofs only [af, ak, ao, beq_self_eq_true, ai, Bool.false_eq_true, if_false, Bool.not_true, A.l3, B.l3, q3] at ho
  cases r3
  ·try simp (maxSteps:=3000000) -implicitDefEqProofs only [af, ao, sf, ah, if_true, Bool.not_false] at ho
   exact ⟨false,h2,ho.symm,⟨fun h=>(by cases h),fun h=>(by have:=p3.2 (congrArg bV.seq h);cases this)⟩,o12⟩
  try simp (maxSteps:=3000000) -implicitDefEqProofs only [af, ak, ao, beq_self_eq_true, ai, Bool.false_eq_true, if_false, Bool.not_true, A.l4, B.l4, q4] at ho
  cases r4
  ·try simp (maxSteps:=3000000) -implicitDefEqProofs only [af, ao, sf, ah, if_true, Bool.not_false] at ho
   exact ⟨false,h2,ho.symm,⟨fun h=>(by cases h),fun h=>(by have:=p4.2 (congrArg bV.origin h);cases this)⟩,o12⟩
  try simp (maxSteps:=3000000) -implicitDefEqProofs only [af, ak, ao, beq_self_eq_true, ai, Bool.false_eq_true, if_false, Bool.not_true, A.l5, B.l5, q5] at ho
  cases r5
  ·try simp (maxSteps:=3000000) -implicitDefEqProofs only [af, sf, ah, if_true, Bool.not_false] at ho
   exact ⟨false,h2,ho.symm,⟨fun h=>(by cases h),fun h=>(by have:=p5.2 (congrArg bV.target h);cases this)⟩,o12⟩
  try simp (maxSteps:=3000000) -implicitDefEqProofs only [af, ak, ao, beq_self_eq_true, ai, Bool.false_eq_true, if_false, Bool.not_true, av, A.l6, A.l7, B.l6, B.l7, q6, q7, w7, w7'] at ho
  cases r6
  ·try simp (maxSteps:=3000000) -implicitDefEqProofs only [Bool.not_false] at ho
   exact ⟨false,h2,ho.symm,⟨fun h=>(by cases h),fun h=>(by have:=p6.2 (congrArg bV.table h);cases this)⟩,o12⟩
  try simp (maxSteps:=3000000) -implicitDefEqProofs only [Bool.not_true] at ho
  cases r7
  ·try simp (maxSteps:=3000000) -implicitDefEqProofs only [af, ao, sf, ah, if_true, Bool.not_false] at ho
   exact ⟨false,h2,ho.symm,⟨fun h=>(by cases h),fun h=>(by have:=p7.2 (congrArg bV.low h);cases this)⟩,o12⟩
  try simp (maxSteps:=3000000) -implicitDefEqProofs only [af, ak, ao, beq_self_eq_true, ai, Bool.false_eq_true, if_false, Bool.not_true, A.l8, B.l8, q8, w8, w8'] at ho
  cases r8
  ·try simp (maxSteps:=3000000) -implicitDefEqProofs only [af, ao, sf, ah, if_true, Bool.not_false] at ho
   exact ⟨false,h2,ho.symm,⟨fun h=>(by cases h),fun h=>(by have:=p8.2 (congrArg bV.high h);cases this)⟩,o12⟩
  try simp (maxSteps:=3000000) -implicitDefEqProofs only [af, ak, ao, beq_self_eq_true, ai, Bool.false_eq_true, if_false, Bool.not_true, A.l9, B.l9, q9] at ho
  cases r9
  ·try simp (maxSteps:=3000000) -implicitDefEqProofs only [af, ao, sf, ah, if_true, Bool.not_false] at ho
   exact ⟨false,h2,ho.symm,⟨fun h=>(by cases h),fun h=>(by have:=p9.2 (congrArg bV.count h);cases this)⟩,o12⟩
  try simp (maxSteps:=3000000) -implicitDefEqProofs only [af, ak, ao, beq_self_eq_true, ai, Bool.false_eq_true, if_false, Bool.not_true, A.cj, B.cj, q10] at ho
  cases r10
  ·try simp (maxSteps:=3000000) -implicitDefEqProofs only [af, ao, sf, ah, if_true, Bool.not_false] at ho
   exact ⟨false,h2,ho.symm,⟨fun h=>(by cases h),fun h=>(by have:=p10.2 (congrArg bV.root h);cases this)⟩,o12⟩
  try simp (maxSteps:=3000000) -implicitDefEqProofs only [af, ak, ao, beq_self_eq_true, ai, Bool.false_eq_true, if_false, Bool.not_true, av, A.bW, B.bW, q11] at ho
  cases r11
  ·try simp (maxSteps:=3000000) -implicitDefEqProofs only [af, sf, ah, if_true, Bool.not_false] at ho
   exact ⟨false,h2,ho.symm,⟨fun h=>(by cases h),fun h=>(by have:=p11.2 (congrArg bV.cp h);cases this)⟩,o12⟩
  try simp (maxSteps:=3000000) -implicitDefEqProofs only [af, ak, ao, beq_self_eq_true, ai, Bool.false_eq_true, if_false, Bool.not_true, A.cw, A.cu, B.cw, B.cu, q12, ew] at ho
  cases r12
  ·try simp (maxSteps:=3000000) -implicitDefEqProofs only [Bool.not_false] at ho
   exact ⟨false,h2,ho.symm,⟨fun h=>(by cases h),fun h=>(by have:=p12.2 (congrArg bV.want h);cases this)⟩,o12⟩
  try simp (maxSteps:=3000000) -implicitDefEqProofs only [Bool.not_true] at ho
  cases r13
  ·try simp (maxSteps:=3000000) -implicitDefEqProofs only [af, ao, fs, ah, Bool.false_eq_true, if_false] at ho
   exact ⟨false,h2,ho.symm,⟨fun h=>(by cases h),fun h=>(by have:=p13.2 (congrArg bV.obj h);cases this)⟩,o12⟩
  try simp (maxSteps:=3000000) -implicitDefEqProofs only [af, ao, beq_self_eq_true, ai, if_true, A.cg, B.cg, q14] at ho
  cases r14
  ·try simp (maxSteps:=3000000) -implicitDefEqProofs only [af, ao, fs, ah, Bool.false_eq_true, if_false] at ho
   exact ⟨false,h3,ho.symm,⟨fun h=>(by cases h),fun h=>(by have:=p14.2 (by rw [h];exact ⟨rfl,rfl,rfl,rfl,rfl,rfl⟩);cases this)⟩,o13⟩
  try simp (maxSteps:=3000000) -implicitDefEqProofs only [af, ak, ao, beq_self_eq_true, ai, if_true, al, A3.aW, B3.aW, Nat.add_zero, q15] at ho
  cases r15
  ·try simp (maxSteps:=3000000) -implicitDefEqProofs only [af, ao, fs, ah, Bool.false_eq_true, if_false] at ho
   exact ⟨false,h3,ho.symm,⟨fun h=>(by cases h),fun h=>(by have:=p15.2 (congrArg bV.cN h);cases this)⟩,o13⟩
  try simp (maxSteps:=3000000) -implicitDefEqProofs only [af, ak, ao, beq_self_eq_true, ai, if_true, al, A3.aX, B3.aX, q16, w16, w16'] at ho
  cases r16
  ·try simp (maxSteps:=3000000) -implicitDefEqProofs only [af, fs, ah, Bool.false_eq_true, if_false] at ho
   exact ⟨false,h3,ho.symm,⟨fun h=>(by cases h),fun h=>(by have:=p16.2 (congrArg bV.data h);cases this)⟩,o13⟩
  try simp (maxSteps:=3000000) -implicitDefEqProofs only [af, ak, beq_self_eq_true, ai, if_true, A3.aY, B3.aY, q17] at ho
  cases r17
  ·try simp (maxSteps:=3000000) -implicitDefEqProofs only [af,ak,ao,fs,sf,beq_self_eq_true,ai,ah,Bool.false_eq_true,if_false,if_true,al,Nat.zero_add,Bool.not_true,Bool.not_false,av,b1,b2,A.l0,A.l1,A.l2,A.l3,A.l4,A.l5,A.l6,A.l7,A.l8,A.l9,A.cj,A.bW,A.cw,A.cu,A.cg,B.l0,B.l1,B.l2,B.l3,B.l4,B.l5,B.l6,B.l7,B.l8,B.l9,B.cj,B.bW,B.cw,B.cu,B.cg,A3.aW,A3.aX,A3.aY,B3.aW,B3.aX,B3.aY,Nat.add_zero,q0,q1,q2,q3,q4,q5,q6,q7,q8,q9,q10,q11,q12,ew,q14,q15,q16,q17,w7,w7',w8,w8',w16,w16'] at ho
   exact ⟨false,h3,ho.symm,⟨fun h=>(by cases h),fun h=>(by have:=p17.2 (congrArg bV.code h);cases this)⟩,o13⟩
  try simp (maxSteps:=3000000) -implicitDefEqProofs only [af,ak,ao,fs,sf,beq_self_eq_true,ai,ah,Bool.false_eq_true,if_false,if_true,al,Nat.zero_add,Bool.not_true,Bool.not_false,av,b1,b2,A.l0,A.l1,A.l2,A.l3,A.l4,A.l5,A.l6,A.l7,A.l8,A.l9,A.cj,A.bW,A.cw,A.cu,A.cg,B.l0,B.l1,B.l2,B.l3,B.l4,B.l5,B.l6,B.l7,B.l8,B.l9,B.cj,B.bW,B.cw,B.cu,B.cg,A3.aW,A3.aX,A3.aY,B3.aW,B3.aX,B3.aY,Nat.add_zero,q0,q1,q2,q3,q4,q5,q6,q7,q8,q9,q10,q11,q12,ew,q14,q15,q16,q17,w7,w7',w8,w8',w16,w16'] at ho
  obtain ⟨m1,m2,m3,m4,m5,m6⟩:=p14.1 rfl
  exact ⟨true,h3,ho.symm,⟨fun _=>bV.ext (p0.1 rfl) (p1.1 rfl) (p2.1 rfl) (p3.1 rfl) (p4.1 rfl) (p5.1 rfl) (p9.1 rfl) (p10.1 rfl) (p12.1 rfl) (p13.1 rfl) m1 m2 m3 m4 m5 (p15.1 rfl) (p17.1 rfl) (p6.1 rfl) (p7.1 rfl) (p8.1 rfl) (p11.1 rfl) m6 (p16.1 rfl),fun _=>rfl⟩,o13⟩
 obtain ⟨r,h',k1,k2,k3⟩:=key _ rfl
 exact ⟨r,h',aF is15 hG rfl ((t15_eq _ _ _ _).trans k1),k2,k3⟩
end
end Go.Proofs.YtjghlcdidopcpaaGreatDoor

namespace Go.Proofs.YtjghlcdidopcpaaGreatDoor
open Go Go.Abs
attribute [local congr] aU
def In (v:Value) (p q:Nat):Prop := ∀ x,slB v=some x→p≤x∧x<q
theorem In.mono {v:Value} {p q p' q':Nat} (x:In v p q) (h1:p'≤p) (h2:q≤q'):In v p' q':=fun y hy=>by
 have:=x y hy
 omega
theorem newC_eq (cs:List Value) (h:aj):cL cs h=some (ptr h.next 0,h.alloc cs):=rfl
theorem bslB (h:aj):bslR 1 (.int .u8 0) 0 [] h=some (.slice (some ⟨h.next,0,none⟩) 0 0,h.alloc []):=rfl
theorem dh.fb {h:aj} {ks:List Kd} {v:Value} {n:Nat} {cs:List Value} (x:dh h ks v n cs):fb v v=true:=by
 obtain ⟨a,c,rfl,-⟩:=x
 simp [Abs.fb]
theorem fM {o:Out} {v:Value} {q:aj} (h:o=some (v,q)) (hv:fb v v=true):dH true o v=true:=by
 unfold dH Abs.same
 rw [h]
 simpa using hv
theorem is69:bO Tryz.prog 69 Tryz.f69:=⟨by kernel_rfl,by kernel_rfl,by kernel_rfl,by kernel_rfl⟩
theorem nil22 (a:Option Addr) (n c:Nat):bin Tryz.prog .eql 22 (.slice a n c) (.slice none 0 0)=some (.bool a.isNone):=by cases a<;>kernel_rfl
theorem cF {A B B':List Value} {i:Nat} {v:Value} (j:Nat) (h:A.length+j=i) (e:B.set j v=B'):(A++B).set i v=A++B':=by
 subst h
 rw [List.set_append_right _ _ (by omega),Nat.add_sub_cancel_left,e]
theorem dy {A B:List Value} {i:Nat} {v:Value} (j:Nat) (h:A.length+j=i) (e:B[j]? = some v):(A++B)[i]? = some v:=by
 subst h
 rw [List.getElem?_append_right (by omega),Nat.add_sub_cancel_left,e]
section
variable {M:bV} {s:cR}
variable (ok:M.Ok)
include ok
theorem man_len:(M.eM s).length=37:=by
 have hl:M.dk.length=32:=ok.dk.1
 unfold bV.eM
 simp [hl]
theorem fS:(M.cells s).length=116:=by
 have h1:M.root.length=32:=ok.root.1
 have h2:M.obj.length=32:=ok.obj.1
 have h3:=man_len (s:=s) ok
 unfold bV.cells bV.front
 simp [h1,h2,h3]
theorem set42 (v:Value):(M.cells s).set 42 v=M.cells { s with d:=v }:=
 cF 32 rfl (cF 0 (by rw [ok.root.1];rfl) rfl)
theorem set114 (v:Value):(M.cells s).set 114 v=M.cells { s with f:=v }:=
 cF 104 rfl (cF 72 (by rw [ok.root.1];rfl) (cF 70 rfl (cF 38 (by rw [ok.obj.1];rfl) (cF 1 (by rw [man_len ok]) rfl))))
theorem at42:(M.cells s)[42]? = some s.d:=dy 32 rfl (dy 0 (by rw [ok.root.1];rfl) rfl)
theorem at112:(M.cells s)[112]? = some s.e:=
 dy 102 rfl (dy 70 (by rw [ok.root.1];rfl) (dy 68 rfl (dy 36 (by rw [ok.obj.1];rfl) (by
  rw [List.getElem?_append_left (by rw [man_len ok];omega)]
  exact dy 32 rfl (dy 0 (by rw [ok.dk.1];rfl) rfl)))))
end
structure Sep (s:cR) (p q:Nat):Prop where
 ex : ∃ p1 p2 p3 p4 p5,p≤p1∧p1≤p2∧p2≤p3∧p3≤p4∧p4≤p5∧p5≤q∧In s.a p p1∧In s.b p1 p2∧In s.c p2 p3∧In s.d p3 p4∧In s.e p4 p5∧In s.f p5 q
theorem Sep.all {s:cR} {p q:Nat} (x:Sep s p q):In s.a p q∧In s.b p q∧In s.c p q∧In s.d p q∧In s.e p q∧In s.f p q:=by
 obtain ⟨p1,p2,p3,p4,p5,l1,l2,l3,l4,l5,l6,a,b,c,d,e,f⟩:=x.ex
 exact ⟨a.mono (by omega) (by omega),b.mono (by omega) (by omega),c.mono (by omega) (by omega),d.mono (by omega) (by omega),e.mono (by omega) (by omega),f.mono (by omega) (by omega)⟩
theorem Sep.off {s:cR} {p q:Nat} (x:Sep s p q) {B:Nat→Prop} (hB : ∀ b,B b→b<p):s.off B:=by
 obtain ⟨a,b,c,d,e,f⟩:=x.all
 rintro v (rfl|rfl|rfl|rfl|rfl|rfl) y hy hb
 ·have:=a y hy;have:=hB y hb;omega
 ·have:=b y hy;have:=hB y hb;omega
 ·have:=c y hy;have:=hB y hb;omega
 ·have:=d y hy;have:=hB y hb;omega
 ·have:=e y hy;have:=hB y hb;omega
 ·have:=f y hy;have:=hB y hb;omega
structure Bx (h0 h:aj) (z k:dB):Prop where
 bA:Old h0 h
 nx:h0.next+2≤h.next
 g:h.get h0.next=some k
 g2:h.get (h0.next+1)=some z
theorem Bx.more {h0 h h':aj} {z k:dB} (x:Bx h0 h z k) (o:Old h h'):Bx h0 h' z k:=⟨x.bA.trans o,Nat.le_trans x.nx o.next,o.get x.g,o.get x.g2⟩
theorem Bx.put {h0 h:aj} {z k:dB} (x:Bx h0 h z k) {o:Nat} {v:Value} (ho:o<k.length) (hv:v.oneCell'=true∧v.cells = #[v]) :
  ∃ h',bw 1 (ptr h0.next o) v h=some (undef,h')∧Bx h0 h' z (k.set o v)∧Kept h h' (· = h0.next)∧h'.next=h.next:=by
 have hn:h.n0≤h0.next:=by rw [x.bA.n0];exact h0.aK
 have k1:Kept h (h.set h0.next (k.set o v)) (· = h0.next):=Kept.set hn x.g (.inr rfl)
 refine ⟨_,stN1_at x.g ho hn hv.2 hv.1,⟨x.bA.cE k1 (fun d hd e=>by omega),x.nx,aj.cx hn x.g _,k1.dj x.g2 (by omega)⟩,k1,rfl⟩
theorem stN_whole {h:aj} {b:Nat} {k k':dB} (hk:h.get b=some k) (h0:h.n0≤b) {n:Nat} (hn:k.length=n) (hn':k'.length=n) (ho:aQ k'=true):bw n (ptr b 0) (.agg k'.toArray) h=some (undef,h.set b k'):=by
 unfold bw ptr
 have hc:(Value.agg k'.toArray).cells=k'.toArray:=rfl
 simp only [hc,List.size_toArray,hn',if_true]
 unfold stL
 simp only [hk]
 rw [if_pos (by simp [ho,h0,hn,hn'])]
 have:bI k 0 k'=k':=by simp [bI,hn,hn']
 simp [this]
theorem Bx.out {h0 h:aj} {z:dB} {s:cR} {n:N6} {M:bV} (B:Bx h0 h z (M.cells s)) (hz:z.length=116) (x:SlV h s n M) (ok:M.Ok) {p q:Nat} (sp:Sep s p q) (hp:h0.next+2≤p) :
  ∃ h',bD 116 (ptr h0.next 0) h=some (.agg (M.cells s).toArray,h)∧bw 116 (ptr (h0.next+1) 0) (.agg (M.cells s).toArray) h=some (undef,h')∧bD 116 (ptr (h0.next+1) 0) h'=some (.agg (M.cells s).toArray,h')∧SlV h' s n M∧Old h0 h'∧h'.next=h.next:=by
 have hn:h.n0≤h0.next+1:=by rw [B.bA.n0];exact Nat.le_trans h0.aK (by omega)
 have c:=cP x ok
 have k1:Kept h (h.set (h0.next+1) (M.cells s)) (· = h0.next+1):=Kept.set hn B.g2 (.inr rfl)
 refine ⟨_,(msg_ld x ok B.g).all,stN_whole B.g2 hn hz c.2.2 c.2.1,(msg_ld x ok (aj.cx hn B.g2 _)).all,x.bF k1 (sp.off (fun b hb=>by omega)),B.bA.cE k1 (fun d hd e=>by omega),rfl⟩
theorem gtr3 (a k:Nat):bin Tryz.prog .gtr 3 (aH a) (.int .i64 (k:Int))=some (.bool (decide (k<a))):=by
 rw [aB]
 congr 2
 by_cases e:k<a
 ·rw [decide_eq_true e,decide_eq_true (by omega)]
 ·rw [decide_eq_false e,decide_eq_false (by omega)]
section
variable {h:aj} {s:cR} {n:N6} {M:bV} (hG:4≤h.n0) (x:SlV h s n M) (ok:M.Ok)
include hG x ok
variable (sm:n.Small)
include sm
end
end Go.Proofs.YtjghlcdidopcpaaGreatDoor

namespace Go.Proofs.YtjghlcdidopcpaaGreatDoor
open Go Go.Abs
section
abbrev u32 (n:Nat):Value := .int .u32 (n:Int)
abbrev u8 (n:Nat):Value := .int .u8 (n:Int)
theorem noHoles_u8 : ∀ l:List Nat,bH (l.map u8)=true
 | []=>rfl
 |x::l=>by
  have:=noHoles_u8 l
  simp only [bH,List.map_cons,List.all_cons] at this ⊢
  rw [this];rfl
theorem noHoles_part (l:List Nat) (o n:Nat):bH (((l.map u8).drop o).take n)=true:=by
 rw [←List.map_drop,←List.map_take];exact noHoles_u8 _
def nat8:Value→Option Nat
 | .int .u8 (.ofNat n)=>if n<256 then some n else none
 |_=>none
theorem nat8_eq {v:Value} {n:Nat} (h:nat8 v=some n):v=u8 n∧n<256:=by
 unfold nat8 at h
 split at h
 ·split at h
  ·cases h;exact ⟨rfl,by assumption⟩
  ·cases h
 ·cases h
def bytesOf:List Value→Option (List Nat)
 | []=>some []
 |v::l=>match nat8 v,bytesOf l with
  |some n,some r=>some (n::r)
  |_,_=>none
theorem bytesOf_eq : ∀ {l:List Value} {r:List Nat},bytesOf l=some r→l=r.map u8 ∧ ∀ n∈r,n<256
 | [],r,h=>by cases h;exact ⟨rfl,by simp⟩
 |v::l,r,h=>by
  unfold bytesOf at h
  split at h
  ·rename_i n r' h1 h2
   cases h
   obtain ⟨rfl,h3⟩:=nat8_eq h1
   obtain ⟨rfl,h4⟩:=bytesOf_eq h2
   refine ⟨rfl,fun m hm => ?_⟩
   rcases List.mem_cons.1 hm with rfl|hm
   ·exact h3
   ·exact h4 m hm
  ·cases h
theorem bytesOf_map : ∀ {r:List Nat},(∀ n∈r,n<256)→bytesOf (r.map u8)=some r
 | [],_=>rfl
 |n::r,h=>by
  have h1:nat8 (u8 n)=some n:=by
   show (if n<256 then some n else none)=some n
   rw [if_pos (h n List.mem_cons_self)]
  simp -implicitDefEqProofs only [List.map_cons,bytesOf,h1,bytesOf_map (r:=r) (fun m hm=>h m (List.mem_cons_of_mem _ hm))]
def ay (a:Option Addr) (n:Nat) (h:aj):Option (List Nat):=(b0 1 n (.slice a n n) h).bind bytesOf
theorem aw {a:Option Addr} {n:Nat} {h:aj} {l:List Nat} (e:ay a n h=some l) :
  l.length=n∧(∀ m∈l,m<256)∧(0<n → ∃ b off s k,a=some ⟨b,off,s⟩∧h.get b=some k∧off+n≤k.length ∧ ∀ i,i<n→k[off+i]? = some (u8 (l.getD i 0))):=by
 unfold ay at e
 rw [Option.bind_eq_some_iff] at e
 obtain ⟨cs,h1,h2⟩:=e
 obtain ⟨rfl,h3⟩:=bytesOf_eq h2
 unfold b0 at h1
 split at h1
 ·split at h1
  ·rename_i hn
   simp -implicitDefEqProofs only [Option.some.injEq] at h1
   have:l = []:=by cases l with|nil=>rfl|cons=>simp at h1
   subst this;subst hn
   exact ⟨rfl,h3,fun h=>absurd h (by omega)⟩
  ·cases h1
 ·rename_i b off s _ _ heq
  split at h1
  ·rename_i hn
   simp -implicitDefEqProofs only [Option.some.injEq] at h1
   have:l = []:=by cases l with|nil=>rfl|cons=>simp at h1
   subst this
   have:n=0:=by omega
   subst this
   exact ⟨rfl,h3,fun h=>absurd h (by omega)⟩
  ·split at h1
   ·rename_i k hk
    split at h1
    ·rename_i hl0
     have hl:=hl0.1
     rw [Nat.mul_one] at h1 hl
     simp -implicitDefEqProofs only [Option.some.injEq] at h1
     have hlen:l.length=n:=by
      have:=congrArg List.length h1
      simp -implicitDefEqProofs only [List.length_map,List.length_take,List.length_drop] at this
      omega
     refine ⟨hlen,h3,fun _=>⟨b,off,s,k,?_,hk,hl,?_⟩⟩
     ·cases heq;rfl
     ·intro i hi
      have h4:=congrArg (·[i]?) h1
      simp -implicitDefEqProofs only [List.getElem?_take,hi,if_true,List.getElem?_drop,List.getElem?_map] at h4
      rw [h4,List.getD_eq_getElem?_getD,List.getElem?_eq_getElem (by omega)]
      rfl
    ·cases h1
   ·cases h1
 ·cases (show Value.slice a n n = .string _ by assumption)
 ·cases h1
theorem sliceBytes_mono {a:Option Addr} {n:Nat} {h h':aj} {l:List Nat} (e:ay a n h=some l) (hm : ∀ b k,h.get b=some k→h'.get b=some k):ay a n h'=some l:=by
 unfold ay at e ⊢
 rw [Option.bind_eq_some_iff] at e ⊢
 obtain ⟨cs,h1,h2⟩:=e
 refine ⟨cs,?_,h2⟩
 unfold b0 at h1 ⊢
 split at h1
 ·exact h1
 ·split at h1
  ·rw [if_pos (by assumption)];exact h1
  ·rw [if_neg (by assumption)]
   split at h1
   ·rename_i k hk
    rw [hm _ _ hk];exact h1
   ·cases h1
 ·cases (show Value.slice a n n = .string _ by assumption)
 ·cases h1
end
section
section bytes
theorem one_u8 : ∀ l:List Nat,aQ (l.map u8)=true
 | []=>rfl
 |x::l=>by
  have:=one_u8 l
  simp only [aQ,List.map_cons,List.all_cons] at this ⊢
  rw [this];rfl
theorem firstA_of {a:Option Addr} {n c:Nat} {h:aj} {l:List Nat} (e:ay a n h=some l) {m:Nat} (hm:m≤n):b0 1 m (.slice a n c) h=some ((l.take m).map u8):=by
 unfold ay at e
 rw [Option.bind_eq_some_iff] at e
 obtain ⟨cs,h1,h2⟩:=e
 obtain ⟨rfl,h3⟩:=bytesOf_eq h2
 cases a with
 |none=>
  simp only [b0] at h1 ⊢
  split at h1
  ·cases l with
   |nil=>simp;omega
   |cons=>simp at h1
  ·cases h1
 |some x=>
  obtain ⟨b,off,s⟩:=x
  simp only [b0,Nat.mul_one] at h1 ⊢
  by_cases hm0:m=0
  ·subst hm0;simp
  ·rw [if_neg hm0]
   rw [if_neg (by omega)] at h1
   cases hk:h.get b with
   |none=>rw [hk] at h1;cases h1
   |some k=>
    rw [hk] at h1
    simp only at h1 ⊢
    split at h1
    ·rename_i hl0
     have hl1:=hl0.1
     simp only [Option.some.injEq] at h1
     have hk2:List.take m (List.drop off k)=(l.take m).map u8:=by rw [List.map_take,←h1,List.take_take,Nat.min_eq_left hm]
     rw [if_pos ⟨by omega,by rw [hk2];exact noHoles_u8 _⟩,hk2]
    ·cases h1
end bytes
end
section
def cn (a:Option Addr) (n c:Nat):Bool:=Nat.ble n c&&(match a with|some ⟨_,_,some s⟩=>s==1|_=>true)
theorem goodS_le {a:Option Addr} {n c:Nat} (h:cn a n c=true):n≤c:=by
 unfold cn at h
 rw [Bool.and_eq_true] at h
 exact Nat.le_of_ble_eq_true h.1
theorem sliceBytes_sub {b off n lo hi:Nat} {s s':Option Nat} {h:aj} {l:List Nat} (e:ay (some ⟨b,off,s⟩) n h=some l) (h1:lo≤hi) (h2:hi≤n) :
  ay (some ⟨b,off+lo,s'⟩) (hi-lo) h=some ((l.drop lo).take (hi-lo)):=by
 obtain ⟨hl,hb,hat⟩:=aw e
 unfold ay
 rw [Option.bind_eq_some_iff]
 refine ⟨((l.drop lo).take (hi-lo)).map u8,?_,bytesOf_map (fun x hx=>hb x (List.mem_of_mem_drop (List.mem_of_mem_take hx)))⟩
 simp only [b0,Nat.mul_one]
 by_cases h0:hi-lo=0
 ·rw [if_pos h0,h0];rfl
 ·rw [if_neg h0]
  obtain ⟨b',off',s'',k,hx,hk,hkl,hk2⟩:=hat (by omega)
  cases hx
  simp only [hk]
  have hcells:(k.drop (off+lo)).take (hi-lo)=((l.drop lo).take (hi-lo)).map u8:=by
   apply List.ext_getElem?
   intro i
   rw [List.getElem?_take,List.getElem?_map,List.getElem?_take,List.getElem?_drop,List.getElem?_drop]
   by_cases hi2:i<hi-lo
   ·rw [if_pos hi2,if_pos hi2,Nat.add_assoc,hk2 (lo+i) (by omega),List.getD_eq_getElem?_getD,List.getElem?_eq_getElem (by omega)]
    rfl
   ·rw [if_neg hi2,if_neg hi2];rfl
  rw [hcells,if_pos ⟨by omega,noHoles_u8 _⟩]
theorem slR_bytes {a:Option Addr} {n c lo hi:Nat} {vl vh:Option Value} {h:aj} {l:List Nat} (g:cn a n c=true) (e:ay a n h=some l) (h1:lo≤hi) (h2:hi≤n) (hh:cB n c vh=some hi) (hl:cB 0 hi vl=some lo) :
  ∃ a' c',slR 1 (.slice a n c) vl vh none=some (.slice a' (hi-lo) c')∧ay a' (hi-lo) h=some ((l.drop lo).take (hi-lo))∧cn a' (hi-lo) c'=true∧(∀ y,a'=some y → ∃ y0,a=some y0∧y0.block=y.block):=by
 have hn:=goodS_le g
 have hb:dx n c vl vh none=some (lo,hi,c):=by
  unfold dx
  have:cB c c none=some c:=rfl
  rw [this]
  simp only [hh,hl]
 have hble:Nat.ble (hi-lo) (c-lo)=true:=Nat.ble_eq_true_of_le (by omega)
 cases a with
 |none=>
  have hl0:l = []:=by
   unfold ay b0 at e
   by_cases hz:n=0
   ·subst hz
    obtain ⟨h3,_⟩:=aw (a:=none) (n:=0) (h:=h) (l:=l) (by unfold ay b0;exact e)
    exact List.length_eq_zero_iff.1 h3
   ·simp only [hz,if_false,Option.bind_none] at e;cases e
  have hn0:n=0:=by
   have:=(aw e).1
   rw [hl0] at this;exact this.symm
  subst hn0
  have:hi=0:=by omega
  subst this
  have:lo=0:=by omega
  subst this
  refine ⟨none,c-0,?_,?_,?_,fun y hy=>(by cases hy)⟩
  ·unfold slR gp
   simp only [hb]
  ·subst hl0;rfl
  ·unfold cn;simp
 |some x=>
  obtain ⟨b,off,s⟩:=x
  cases s with
  |none=>
   refine ⟨some ⟨b,if c=lo then off else off+lo*1,none⟩,c-lo,?_,?_,?_,fun y hy=>⟨_,rfl,(by cases hy;rfl)⟩⟩
   ·unfold slR gp
    simp only [hb]
   ·by_cases hc:c=lo
    ·have h3:hi-lo=0:=by omega
     rw [if_pos hc,h3]
     have:(l.drop lo).take 0 = []:=rfl
     rw [this]
     unfold ay b0;simp;rfl
    ·rw [if_neg hc,Nat.mul_one]
     exact sliceBytes_sub e h1 h2
   ·unfold cn;rw [hble];rfl
  |some s=>
   have hs:s=1:=by
    unfold cn at g
    rw [Bool.and_eq_true] at g
    exact eq_of_beq g.2
   subst hs
   refine ⟨some ⟨b,off+lo*1,some 1⟩,c-lo,?_,?_,?_,fun y hy=>⟨_,rfl,(by cases hy;rfl)⟩⟩
   ·unfold slR gp
    simp [hb]
   ·rw [Nat.mul_one];exact sliceBytes_sub e h1 h2
   ·unfold cn;rw [hble];rfl
theorem sliceBytes_congr {a:Option Addr} {n:Nat} {h h':aj} (e : ∀ x,a=some x→h'.get x.block=h.get x.block):ay a n h'=ay a n h:=by
 unfold ay b0
 cases a with
 |none=>rfl
 |some x=>simp only [e x rfl]
end
section
theorem sliceBytes_at {h:aj} {b off n:Nat} {s:Option Nat} {l:List Nat} (hg:h.get b=some (l.map u8)) (hl:off+n≤l.length) (hb : ∀ x∈l,x<256):ay (some ⟨b,off,s⟩) n h=some ((l.drop off).take n):=by
 unfold ay
 rw [Option.bind_eq_some_iff]
 refine ⟨((l.drop off).take n).map u8,?_,bytesOf_map (fun y hy=>hb y (List.mem_of_mem_drop (List.mem_of_mem_take hy)))⟩
 simp only [b0,hg,Nat.mul_one]
 by_cases h0:n=0
 ·rw [if_pos h0,h0];rfl
 ·rw [if_neg h0,if_pos ⟨by simpa using hl,noHoles_part _ _ _⟩]
  simp
end
section
theorem bsl_bytes (h:aj):bslR 1 (.int .u8 0) 0 [] h=some (.slice (some ⟨h.next,0,none⟩) 0 0,h.alloc []):=rfl
end
section
theorem append_fresh {g:aj} {E:Nat} {a:Option Addr} {n c:Nat} {l:List Nat} (hE:g.n0≤E) (hl:ay a n g=some l) (hn:n≤21000) :
  ∃ b s c' g',cl 1 1 (.slice (some ⟨E,0,none⟩) 0 0) (.slice a n c) g=some (.slice (some ⟨b,0,s⟩) n c',g')∧ay (some ⟨b,0,s⟩) n g'=some l∧cn (some ⟨b,0,s⟩) n c'=true∧(b=E∨(b=g.next∧g.next<g'.next)) ∧
    g'.n0=g.n0∧g.next≤g'.next∧(∀ e,e<g.next→g'.get e=g.get e):=by
 obtain ⟨hlen,hb,_⟩:=aw hl
 have hf:=firstA_of hl (Nat.le_refl n) (c:=c)
 rw [List.take_of_length_le (by omega)] at hf
 have hcond:(!(aQ (l.map u8)) || !(decide ((0+n)*1≤140737488355328)) || !(decide (0+n≤4611686018427387904))||decide ((l.map u8).length≠n*1))=false:=by
  rw [one_u8,decide_eq_true (by omega:(0+n)*1≤140737488355328),decide_eq_true (by omega:0+n≤4611686018427387904),decide_eq_false (by simp;omega)];rfl
 unfold cl
 simp only [lenA,hf]
 rw [if_neg (by rw [hcond];decide)]
 by_cases h0:n=0
 ·subst h0
  have:l = []:=List.length_eq_zero_iff.1 hlen
  subst this
  rw [if_pos (by omega),if_pos rfl]
  exact ⟨E,none,0,g,rfl,rfl,rfl,.inl rfl,rfl,Nat.le_refl _,fun _ _=>rfl⟩
 ·rw [if_neg (by omega)]
  have f0:b0 1 0 (.slice (some ⟨E,0,none⟩) 0 0) g=some []:=rfl
  simp only [f0]
  rw [if_neg (by simp)]
  refine ⟨g.next,some 1,0+n,g.alloc ([]++l.map u8),by rw [Nat.zero_add],?_,?_,.inr ⟨rfl,by simp⟩,rfl,by simp,?_⟩
  ·rw [List.nil_append,sliceBytes_at (l:=l) (by rw [aj.aS,if_pos rfl]) (by omega) hb,List.drop_zero,List.take_of_length_le (by omega)]
  ·unfold cn
   rw [Nat.zero_add]
   simp
  ·intro e he
   rw [aj.aS,if_neg (by omega)]
end
section
theorem Old.bytes {h h':aj} (o:Old h h') {a:Option Addr} {n:Nat} {l:List Nat} (e:ay a n h=some l):ay a n h'=some l:=sliceBytes_mono e fun _ _=>o.get
theorem r69b {a:Option Addr} {n c:Nat} {l:List Nat} {h:aj} (hG:4≤h.n0) (hl:ay a n h=some l) (hn:n≤21000) :
  ∃ a' c' h',CW 69 [.slice a n c] h=some (.slice a' n c',h')∧ay a' n h'=some l∧cn a' n c'=true∧Old h h'∧(∀ y,a'=some y→h.next≤y.block∧y.block<h'.next)∧(a'.isNone=a.isNone):=by
 cases a with
 |none=>
  have h0:n=0:=by
   obtain ⟨h1,_,h3⟩:=aw hl
   by_cases hz:n=0
   ·exact hz
   ·obtain ⟨_,_,_,_,h4,_⟩:=h3 (by omega);cases h4
  subst h0
  refine ⟨none,0,h,aF is69 hG rfl ((t69_eq _ _ _).trans ?_),hl,rfl,Kept.refl _ _,fun y hy=>by (cases hy),rfl⟩
  unfold t69
  simp -implicitDefEqProofs only [af,nil22,ak,Option.isNone_none]
 |some x=>
  have hl1:ay (some x) n (h.alloc [])=some l:=sliceBytes_mono hl fun _ _ hc=>aj.get_alloc_some hc _
  obtain ⟨b,s,c',g',e1,e2,e3,e4,e5,e6,e7⟩:=append_fresh (g:=h.alloc []) (E:=h.next) (c:=c) h.aK hl1 hn
  refine ⟨some ⟨b,0,s⟩,c',g',aF is69 hG rfl ((t69_eq _ _ _).trans ?_),e2,e3,(Kept.alloc h [] _).trans ⟨e5,e6,fun d hd _=>e7 d hd⟩,?_,rfl⟩
  ·unfold t69
   simp -implicitDefEqProofs only [af,nil22,ak,Option.isNone_some,bsl_bytes,e1]
  ·intro y hy
   cases hy
   have hn1:(h.alloc []).next=h.next+1:=by simp
   show h.next≤b∧b<g'.next
   rcases e4 with e4|⟨e4,e8⟩
   ·omega
   ·omega
theorem _root_.Go.Abs.Kept.bytes {h h':aj} {B:Nat→Prop} (k:Kept h h' B) {a:Option Addr} {n:Nat} {l:List Nat} (e:ay a n h=some l) (hb : ∀ y,a=some y→0<n → ¬B y.block):ay a n h'=some l:=by
 by_cases h0:n=0
 ·subst h0
  obtain ⟨hl,_,_⟩:=aw e
  have:l = []:=List.length_eq_zero_iff.1 hl
  subst this
  cases a with
  |none=>rfl
  |some x=>unfold ay b0;simp;rfl
 ·obtain ⟨_,_,h3⟩:=aw e
  obtain ⟨b,off,s,c,rfl,hc,_⟩:=h3 (by omega)
  rw [sliceBytes_congr (h:=h) (fun y hy=>by cases hy;exact k.get b (h.bc hc) (hb _ rfl (by omega)))]
  exact e
theorem bytes_apart {h:aj} {a:Option Addr} {n:Nat} {l:List Nat} (e:ay a n h=some l) {r:Nat} {k:dB} (hk:h.get r=some k) (hv : ∀ v∈k,nat8 v=none) : ∀ y,a=some y→0<n→y.block≠r:=by
 intro y hy hn he
 obtain ⟨_,hb,h3⟩:=aw e
 obtain ⟨b,off,s,c,rfl,hc,hlen,hat⟩:=h3 hn
 cases hy
 have:b=r:=he
 subst this
 rw [hk] at hc
 cases hc
 have h4:=hat 0 hn
 have h5:=hv _ (List.mem_of_getElem? h4)
 have h6:l.getD 0 0<256:=by
  rw [List.getD_eq_getElem?_getD]
  cases hz:l[0]? with
  |none=>decide
  |some z=>exact hb z (List.mem_of_getElem? hz)
 have h7:nat8 (u8 (l.getD 0 0))=some (l.getD 0 0):=by
  show (if l.getD 0 0<256 then some (l.getD 0 0) else none)=some (l.getD 0 0)
  rw [if_pos h6]
 rw [h7] at h5;cases h5
structure IsR (h:aj) (p r:Nat) (l:List Nat) (e:Int):Prop where
 ex : ∃ a n c,h.get r=some [.slice a n c,.int .i64 e]∧ay a n h=some l∧cn a n c=true ∧ ∀ y,a=some y→p≤y.block∧y.block<r
 n0:h.n0≤r
 len:l.length≤21000
 g4:4≤h.n0
 pr:p≤r
theorem IsR.bF {h h':aj} {B:Nat→Prop} {p r:Nat} {l:List Nat} {e:Int} (R:IsR h p r l e) (k:Old h h'):IsR h' p r l e:=by
 obtain ⟨a,n,c,h1,h2,h3⟩:=R.ex
 exact ⟨⟨a,n,c,k.dj h1 (fun h=>h),k.bytes h2,h3⟩,k.n0▸R.n0,R.len,k.n0▸R.g4,R.pr⟩
theorem is32:bO Tryz.prog 32 Tryz.f32:=⟨by kernel_rfl,by kernel_rfl,by kernel_rfl,by kernel_rfl⟩
theorem r32 {a:Option Addr} {n c:Nat} {l:List Nat} {h:aj} (hG:4≤h.n0) (hl:ay a n h=some l) (hn:n≤21000) :
  ∃ r h',CW 32 [.slice a n c] h=some (ptr r 0,h')∧IsR h' h.next r l 0∧Old h h'∧h.next≤r:=by
 obtain ⟨a',c',h1,e1,e2,e3,e4,e5,_⟩:=r69b (c:=c) hG hl hn
 have hb:bU [(.slice none 0 0),(.int .i64 0)] [(0,1,.slice a' n c')]=some (.agg [.slice a' n c',.int .i64 0].toArray):=rfl
 refine ⟨h1.next,h1.alloc [.slice a' n c',.int .i64 0],aF is32 hG rfl ((t32_eq _ _ _).trans ?_),⟨⟨a',n,c',by rw [aj.aS,if_pos rfl],(Kept.alloc h1 _ (fun _=>False)).bytes e2 (fun _ _ _ h=>h),e3,fun y hy=>e5 y hy⟩,?_,?_,?_,e4.next⟩,e4.trans (Kept.alloc h1 _ _),e4.next⟩
 ·unfold t32
  simp -implicitDefEqProofs only [af,e1,hb,ak,fz h1 [.slice a' n c',.int .i64 0] rfl]
 ·exact h1.aK
 ·rw [(aw hl).1];exact hn
 ·rw [aj.n0_alloc,e4.n0];exact hG
theorem eql134 (b o:Nat):bin Tryz.prog .eql 68 (ptr b o) (.pointer none)=some (.bool false):=by kernel_rfl
theorem bin28n0 (a:Int):bin Tryz.prog .neq 35 (.int .i64 a) (.int .i64 0)=some (.bool (a != 0)):=ax ..
theorem rd_apart (a:Option Addr) (n c:Nat) (e:Int) : ∀ v ∈ [Value.slice a n c,.int .i64 e],nat8 v=none:=by
 intro v hv
 simp only [List.mem_cons,List.not_mem_nil,or_false] at hv
 rcases hv with rfl|rfl<;>rfl
theorem is94:bO Tryz.prog 94 Tryz.f94:=⟨by kernel_rfl,by kernel_rfl,by kernel_rfl,by kernel_rfl⟩
theorem r94 {p r:Nat} {l:List Nat} {h:aj} (R:IsR h p r l 0) {n:Nat} (hn:n≤l.length) :
  ∃ a' c' h',CW 94 [ptr r 0,aH n] h=some (.slice a' n c',h')∧ay a' n h'=some (l.take n)∧cn a' n c'=true∧IsR h' p r (l.drop n) 0∧Kept h h' (fun c=>c=r)∧h'.next=h.next:=by
 obtain ⟨a,m,c,h1,h2,h3,hB⟩:=R.ex
 have hm:=(aw h2).1
 subst hm
 have l0:aN (ptr r 0) h=some (.slice a l.length c,h):=aV h1 rfl
 have l1:aN (ptr r 1) h=some (.int .i64 0,h):=aV h1 rfl
 obtain ⟨a1,c1,e1,e2,e3,_⟩:=slR_bytes (vl:=none) (vh:=some (aH n)) (lo:=0) (hi:=n) h3 h2 (by omega) hn (by simp only [cB];rw [if_pos (by have:=goodS_le h3;omega)];rfl) rfl
 obtain ⟨a2,c2,f1,f2,f3,f4⟩:=slR_bytes (vl:=some (aH n)) (vh:=none) (lo:=n) (hi:=l.length) h3 h2 hn (Nat.le_refl _) rfl (by simp only [cB];rw [if_pos (by omega)];rfl)
 have hst:bw 1 (ptr r 0) (.slice a2 (l.length-n) c2) h=some (undef,h.set r [.slice a2 (l.length-n) c2,.int .i64 0]):=stN1_at h1 (by simp) R.n0 rfl rfl
 have kp:Kept h (h.set r [.slice a2 (l.length-n) c2,.int .i64 0]) (fun c=>c=r):=Kept.set R.n0 h1 (.inr rfl)
 have hap:=fun {a:Option Addr} {n:Nat} {l:List Nat} (e:ay a n h=some l)=>bytes_apart e h1 (rd_apart _ _ _ _)
 rw [List.drop_zero,Nat.sub_zero] at e2
 rw [Nat.sub_zero] at e1 e3
 rw [List.take_of_length_le (by simp)] at f2
 refine ⟨a1,c1,h.set r [.slice a2 (l.length-n) c2,.int .i64 0],aF is94 R.g4 rfl ((t94_eq _ _ _ _).trans ?_),kp.bytes e2 (hap e2),e3,⟨⟨a2,l.length-n,c2,aj.cx R.n0 h1 _,kp.bytes f2 (hap f2),f3,fun y hy=>by
  obtain ⟨y0,q1,q2⟩:=f4 y hy
  rw [←q2];exact hB y0 q1⟩,R.n0,by have:=R.len;simp;omega,R.g4,R.pr⟩,kp,rfl⟩
 have g1 : ¬((n:Int)<0):=by omega
 have g2 : ¬((n:Int)>(l.length:Int)):=by omega
 unfold t94
 simp -implicitDefEqProofs only [af,eql134,ak,ao,beq_self_eq_true,ai,bS,al,Nat.zero_add,l1,bin28n0,bne_self_eq_false,Bool.false_eq_true,if_false,aH,aC,g1,decide_false,l0,lenL_slice,aB,g2]
 rw [show (Value.int .i64 (n:Int))=aH n from rfl,e1]
 simp -implicitDefEqProofs only [af,ak,l0,f1,hst]
theorem r94_short {p r:Nat} {l:List Nat} {h:aj} (R:IsR h p r l 0) {n:Nat} (hn:l.length<n) :
  ∃ h',CW 94 [ptr r 0,aH n] h=some (.slice none 0 0,h')∧IsR h' p r l 4∧Kept h h' (fun c=>c=r)∧h'.next=h.next:=by
 obtain ⟨a,m,c,h1,h2,h3,hB⟩:=R.ex
 have hm:=(aw h2).1
 subst hm
 have l0:aN (ptr r 0) h=some (.slice a l.length c,h):=aV h1 rfl
 have l1:aN (ptr r 1) h=some (.int .i64 0,h):=aV h1 rfl
 have hst:bw 1 (ptr r 1) (.int .i64 4) h=some (undef,h.set r [.slice a l.length c,.int .i64 4]):=stN1_at h1 (by simp) R.n0 rfl rfl
 have kp:Kept h (h.set r [.slice a l.length c,.int .i64 4]) (fun c=>c=r):=Kept.set R.n0 h1 (.inr rfl)
 refine ⟨h.set r [.slice a l.length c,.int .i64 4],aF is94 R.g4 rfl ((t94_eq _ _ _ _).trans ?_),⟨⟨a,l.length,c,aj.cx R.n0 h1 _,kp.bytes h2 (bytes_apart h2 h1 (rd_apart _ _ _ _)),h3,hB⟩,R.n0,R.len,R.g4,R.pr⟩,kp,rfl⟩
 have g1 : ¬((n:Int)<0):=by omega
 have g2:((n:Int)>(l.length:Int)):=by omega
 unfold t94
 simp -implicitDefEqProofs only [af,eql134,ak,ao,beq_self_eq_true,ai,bS,al,Nat.zero_add,l1,bin28n0,bne_self_eq_false,Bool.false_eq_true,if_false,aH,aC,g1,decide_false,l0,lenL_slice,aB,g2,decide_true,hst]
def be (l:List Nat):Nat:=l.foldl (fun v x=>v*256+x) 0
theorem be_snoc (l:List Nat) (x:Nat):be (l ++ [x])=be l*256+x:=by simp [be]
theorem be_lt : ∀ (n:Nat) (l:List Nat),l.length=n→(∀ x∈l,x<256)→be l<256^n
 | 0,l,hl,_=>by
   have:l = []:=List.length_eq_zero_iff.1 hl
   subst this;decide
 |n+1,l,hl,hb=>by
  rcases List.eq_nil_or_concat l with h0|⟨m,x,h0⟩
  ·subst h0;cases hl
  ·rw [List.concat_eq_append] at h0
   subst h0
   have hm:m.length=n:=by simpa using hl
   have:=be_lt n m hm (fun y hy=>hb y (List.mem_append_left _ hy))
   have hx:=hb x (by simp)
   rw [be_snoc,Nat.pow_succ]
   omega
theorem is76:bO Tryz.prog 76 Tryz.f76:=⟨by kernel_rfl,by kernel_rfl,by kernel_rfl,by kernel_rfl⟩
theorem shl_or {v x:Nat} (hv:v<72057594037927936) (hx:x<256):bin Tryz.prog .shl 25 (.int .u64 (v:Int)) (.int .u64 8)=some (.int .u64 ((v*256:Nat):Int)) ∧
  bin Tryz.prog .or 25 (.int .u64 ((v*256:Nat):Int)) (.int .u64 (x:Int))=some (.int .u64 ((v*256+x:Nat):Int)):=by
 constructor
 ·rw [eG]
  have h2:min (8:Int).toNat (IntKind.bits .u64)=8:=by decide
  simp only [binI,show ¬((8:Int)<0) by decide,if_false,h2]
  have h3:(2:Int)^8=256:=by decide
  rw [h3,show (v:Int)*256=((v*256:Nat):Int) by omega,wrap_u64 (by omega) (by omega)]
 ·rw [bin_or_nat Tryz.prog 25 (k := .u64) rfl (by show _<2^64;omega) (by show _<2^64;omega)]
  have:=Nat.two_pow_add_eq_or_of_lt (i:=8) (b:=x) (by omega) v
  rw [show v*256=2^8*v by omega,←this]
theorem r76 {p r:Nat} {l:List Nat} {h:aj} (R:IsR h p r l 0) {n:Nat} (hn:n≤l.length) (h8:n≤8) :
  ∃ h',CW 76 [ptr r 0,aH n] h=some (.int .u64 (be (l.take n)),h')∧IsR h' p r (l.drop n) 0∧Kept h h' (fun c=>c=r)∧h'.next=h.next:=by
 obtain ⟨a,c,h1,e1,e2,e3,e4,e5,e6⟩:=r94 R hn
 refine ⟨h1,aF is76 R.g4 rfl ((t76_eq _ _ _ _).trans ?_),e4,e5,e6⟩
 have hb : ∀ x∈l.take n,x<256:=(aw e2).2.1
 have hlen:(l.take n).length=n:=(aw e2).1
 unfold t76
 simp -implicitDefEqProofs only [af,e1,lenL_slice,ak]
 obtain ⟨ex,y,g,q1,q2⟩:=loop_inv (t76l76_11010_eq CW)
  (Inv:=fun k y g=>k≤n∧g=h1∧y 10 = .slice a n c∧y 11=aH n∧y 12=aH (n-k)∧y 5 = .int .u64 (be ((l.take n).take (n-k))))
  (fin:=fun ex y g=>ex = .exit 0∧g=h1∧y 5 = .int .u64 (be (l.take n)))
  (by
   rintro k y g ⟨hk,rfl,i10,i11,i12,i5⟩
   unfold t76l76_11010
   simp -implicitDefEqProofs only [i11,i12,aH,aC,ak,af]
   by_cases hz:k=0
   ·subst hz
    simp -implicitDefEqProofs only [Nat.sub_zero,Int.lt_irrefl,decide_false]
    refine ⟨_,_,_,rfl,.inr ⟨by simp,rfl,rfl,?_⟩⟩
    simp only [eh,fW,Nat.reduceEqDiff,if_false]
    rw [i5,Nat.sub_zero,List.take_of_length_le (by omega)]
   ·have hlt:((n-k:Nat):Int)<(n:Int):=by omega
    obtain ⟨b,off,s,kb,hx,hkb,hoff,hat⟩:=(aw e2).2.2 (by omega)
    subst hx
    have hidx:(0:Int)≤((n-k:Nat):Int)∧((n-k:Nat):Int)<(n:Int):=by omega
    have hV:=hat (n-k) (by omega)
    generalize hVd:(l.take n).getD (n-k) 0=V at *
    have hV2:(l.take n)[n-k]? = some V:=by
     rw [←hVd,List.getD_eq_getElem?_getD,List.getElem?_eq_getElem (by omega)];rfl
    have hV256:V<256:=hb V (List.mem_of_getElem? hV2)
    have hbe:=be_lt (n-k) ((l.take n).take (n-k)) (by simp;omega) (fun x hx=>hb x (List.mem_of_mem_take hx))
    have hbe2:be ((l.take n).take (n-k))<72057594037927936:=Nat.lt_of_lt_of_le hbe (Nat.le_trans (Nat.pow_le_pow_right (by decide) (show n-k≤7 by omega)) (by decide))
    obtain ⟨b1,b2⟩:=shl_or hbe2 hV256
    have hw:IntKind.wrap .u64 (V:Int)=(V:Int):=wrap_u64 (by omega) (by omega)
    have hw2:IntKind.wrap .i64 (((n-k:Nat):Int)+1)=((n-(k-1):Nat):Int):=by rw [wrap_i64 (by omega) (by omega)];omega
    simp -implicitDefEqProofs only [i10, bB, hidx, and_self, if_true, Int.toNat_natCast, Nat.mul_one, ak, af, aV hkb hV, i5, b1, u8, bq, hw, b2, bin_add, hw2]
    refine ⟨_,_,_,rfl,.inl ⟨rfl,k-1,by omega,by omega,rfl,?_,?_,?_,?_⟩⟩
    ·simp only [eh,fW,Nat.reduceEqDiff,if_false,i10]
    ·simp only [eh,fW,Nat.reduceEqDiff,if_false,i11]
    ·simp only [eh,fW,Nat.reduceEqDiff,if_false,if_true]
    ·simp only [eh,fW,Nat.reduceEqDiff,if_false,if_true]
     rw [show n-(k-1)=n-k+1 by omega,List.take_add_one,hV2]
     show _=Value.int .u64 ((be ((l.take n).take (n-k) ++ [V]):Nat):Int)
     rw [be_snoc])
  (k:=n) (by have:rounds=18446744073709551616:=rfl;omega)
  (x:=up (bs [ptr r 0,aH n]) [(4,.int .u64 0),(5,.int .u64 0),(8,ptr r 0),(9,aH n),(10,.slice a n c),(11,aH n),(12,.int .i64 0)]) (h:=h1)
  ⟨Nat.le_refl _,rfl,rfl,rfl,by rw [Nat.sub_self];rfl,by rw [Nat.sub_self];rfl⟩
 obtain ⟨rfl,rfl,q3⟩:=q2
 rw [show (Value.int .i64 (n:Int))=aH n from rfl,q1]
 simp -implicitDefEqProofs only [bE,b76_4,if_true,t76k76_2_eq]
 unfold t76k76_2
 simp -implicitDefEqProofs only [q3,af]
end
section
theorem IsR.byte {h:aj} {p r:Nat} {l:List Nat} {e:Int} (R:IsR h p r l e) : ∀ x∈l,x<256:=by
 obtain ⟨a,n,c,_,h2,_⟩:=R.ex
 exact (aw h2).2.1
theorem be_take_lt {l:List Nat} (hb : ∀ x∈l,x<256) {n:Nat} (hn:n≤l.length):be (l.take n)<256^n:=be_lt n _ (by simp;omega) fun x hx=>hb x (List.mem_of_mem_take hx)
theorem is33:bO Tryz.prog 33 Tryz.f33:=⟨by kernel_rfl,by kernel_rfl,by kernel_rfl,by kernel_rfl⟩
theorem is128:bO Tryz.prog 128 Tryz.f128:=⟨by kernel_rfl,by kernel_rfl,by kernel_rfl,by kernel_rfl⟩
theorem is73:bO Tryz.prog 73 Tryz.f73:=⟨by kernel_rfl,by kernel_rfl,by kernel_rfl,by kernel_rfl⟩
theorem is72:bO Tryz.prog 72 Tryz.f72:=⟨by kernel_rfl,by kernel_rfl,by kernel_rfl,by kernel_rfl⟩
theorem is74:bO Tryz.prog 74 Tryz.f74:=⟨by kernel_rfl,by kernel_rfl,by kernel_rfl,by kernel_rfl⟩
theorem is75:bO Tryz.prog 75 Tryz.f75:=⟨by kernel_rfl,by kernel_rfl,by kernel_rfl,by kernel_rfl⟩
structure RdOk (h:aj) (p r:Nat) (l:List Nat) (n:Nat) (h':aj):Prop where
 rd:IsR h' p r (l.drop n) 0
 kept:Kept h h' (fun c=>c=r)
 next:h'.next=h.next
section
variable {p r:Nat} {l:List Nat} {h:aj} (R:IsR h p r l 0)
include R
theorem r128 (hn:8≤l.length) : ∃ h',CW 128 [ptr r 0] h=some (.int .u64 (be (l.take 8)),h')∧RdOk h p r l 8 h':=by
 obtain ⟨h1,e1,e2,e3,e4⟩:=r76 R hn (by decide)
 refine ⟨h1,aF is128 R.g4 rfl ((t128_eq _ _ _).trans ?_),e2,e3,e4⟩
 have e1:CW 76 [ptr r 0,.int .i64 8] h=_:=e1
 unfold t128
 simp -implicitDefEqProofs only [af,e1]
theorem r73 (hn:1≤l.length) : ∃ h',CW 73 [ptr r 0] h=some (.int .u8 (be (l.take 1)),h')∧RdOk h p r l 1 h':=by
 obtain ⟨h1,e1,e2,e3,e4⟩:=r76 R hn (by decide)
 refine ⟨h1,aF is73 R.g4 rfl ((t73_eq _ _ _).trans ?_),e2,e3,e4⟩
 have e1:CW 76 [ptr r 0,.int .i64 1] h=_:=e1
 have hb:=be_take_lt R.byte hn
 have hw:IntKind.wrap .u8 ((be (l.take 1):Nat):Int)=(be (l.take 1):Nat):=wrap_u8 (by omega) (by omega)
 unfold t73
 simp -implicitDefEqProofs only [af,e1,bq,hw]
theorem r74 {n:Nat} (hn:n≤l.length) : ∃ a' c' h',CW 74 [ptr r 0,aH n] h=some (.slice a' n c',h')∧ay a' n h'=some (l.take n)∧cn a' n c'=true∧IsR h' p r (l.drop n) 0∧Kept h h' (fun c=>c=r) ∧
  (∀ y,a'=some y→h.next≤y.block):=by
 obtain ⟨a,c,h1,e1,e2,e3,e4,e5,e6⟩:=r94 R hn
 obtain ⟨a',c',h2,f1,f2,f3,f4,f5,_⟩:=r69b (c:=c) e4.g4 e2 (by have:=R.len;omega)
 refine ⟨a',c',h2,aF is74 R.g4 rfl ((t74_eq _ _ _ _).trans ?_),f2,f3,e4.bF (B:=fun _=>False) f4,e5.cE f4 (fun _ _ h=>h.elim),fun y hy=>e6▸(f5 y hy).1⟩
 unfold t74
 simp -implicitDefEqProofs only [af,e1,f1]
end
theorem r75 {p r:Nat} {l:List Nat} {h:aj} {e:Int} (R:IsR h p r l e):CW 75 [ptr r 0] h=some (.int .i64 e,h):=by
 obtain ⟨a,n,c,h1,_,_⟩:=R.ex
 have l1:aN (ptr r 1) h=some (.int .i64 e,h):=aV h1 rfl
 refine aF is75 R.g4 rfl ((t75_eq _ _ _).trans ?_)
 unfold t75
 simp -implicitDefEqProofs only [af,eql134,ak,bS,al,Nat.zero_add,l1]
end
end Go.Proofs.YtjghlcdidopcpaaGreatDoor

namespace Go.Proofs.YtjghlcdidopcpaaGreatDoor
open Go Go.Abs
attribute [local congr] aU
@[ext] structure Rd where
  l:List Nat
  e:Int
def Rd.take (s:Rd) (n:Nat):List Nat×Rd:=if s.e=0 then (if n≤s.l.length then (s.l.take n,⟨s.l.drop n,0⟩) else ([],⟨s.l,4⟩)) else ([],s)
def Rd.num (s:Rd) (n:Nat):Nat×Rd:=(be (s.take n).1,(s.take n).2)
def Rd.text (s:Rd):List Nat×Rd:=if s.e=0 then (if ((s.num 2).2.take (s.num 2).1).2.e=0 then (s.num 2).2.take (s.num 2).1 else ([],⟨s.l,((s.num 2).2.take (s.num 2).1).2.e⟩)) else ([],s)
abbrev fA (h:aj) (p r:Nat) (s:Rd):Prop:=IsR h p r s.l s.e
theorem Rd.ef {s:Rd} {n:Nat} (h:s.e=0) (hn:n≤s.l.length):s.take n=(s.l.take n,⟨s.l.drop n,0⟩):=by unfold Rd.take;rw [if_pos h,if_pos hn]
theorem Rd.eO {s:Rd} {n:Nat} (h:s.e=0) (hn:s.l.length<n):s.take n=([],⟨s.l,4⟩):=by unfold Rd.take;rw [if_pos h,if_neg (by omega)]
theorem Rd.take_err {s:Rd} {n:Nat} (h:s.e≠0):s.take n=([],s):=by unfold Rd.take;rw [if_neg h]
theorem Rd.eD (s:Rd) (n:Nat):(s.take n).1.length≤n:=by
 unfold Rd.take
 split
 ·split
  ·rw [List.length_take];omega
  ·exact Nat.zero_le _
 ·exact Nat.zero_le _
theorem Rd.du {s:Rd} (hb : ∀ x∈s.l,x<256) (n:Nat):(∀ x∈(s.take n).1,x<256) ∧ ∀ x∈(s.take n).2.l,x<256:=by
 unfold Rd.take
 split
 ·split
  ·exact ⟨fun x hx=>hb x (List.mem_of_mem_take hx),fun x hx=>hb x (List.mem_of_mem_drop hx)⟩
  ·exact ⟨fun x hx=>(by cases hx),hb⟩
 ·exact ⟨fun x hx=>(by cases hx),hb⟩
theorem be_lt' {l:List Nat} {n:Nat} (hl:l.length≤n) (hb : ∀ x∈l,x<256):be l<256^n:=Nat.lt_of_lt_of_le (be_lt l.length l rfl hb) (Nat.pow_le_pow_right (by decide) hl)
theorem Rd.cZ {s:Rd} (hb : ∀ x∈s.l,x<256) (n:Nat):(s.num n).1<256^n:=be_lt' (s.eD n) (s.du hb n).1
theorem IsR.ne {h:aj} {p r:Nat} {l:List Nat} {e:Int} (R:IsR h p r l e) (he:e≠0) {n:Int}:CW 94 [ptr r 0,.int .i64 n] h=some (.slice none 0 0,h):=by
 obtain ⟨a,m,c,h1,_,_⟩:=R.ex
 have l1:aN (ptr r 1) h=some (.int .i64 e,h):=aV h1 rfl
 have hq:(e != 0)=true:=by simpa using he
 refine aF is94 R.g4 rfl ((t94_eq _ _ _ _).trans ?_)
 unfold t94
 simp -implicitDefEqProofs only [af,eql134,ak,ao,beq_self_eq_true,ai,bS,al,Nat.zero_add,l1,bin28n0,hq,Bool.false_eq_true,if_false]
section
variable {p r:Nat} {s:Rd} {h:aj} (R:fA h p r s)
include R
theorem q94 (n:Nat) : ∃ a c h',CW 94 [ptr r 0,aH n] h=some (.slice a (s.take n).1.length c,h')∧ay a (s.take n).1.length h'=some (s.take n).1∧cn a (s.take n).1.length c=true∧fA h' p r (s.take n).2∧Kept h h' (fun c=>c=r)∧h'.next=h.next:=by
 obtain ⟨l,e⟩:=s
 by_cases he:e=0
 ·subst he
  by_cases hn:n≤l.length
  ·rw [Rd.ef rfl hn]
   obtain ⟨a,c,h',e1,e2,e3,e4,e5,e6⟩:=r94 R hn
   have hl:(l.take n).length=n:=by rw [List.length_take];exact Nat.min_eq_left hn
   refine ⟨a,c,h',?_,?_,?_,e4,e5,e6⟩
   ·simp only [hl];exact e1
   ·simp only [hl];exact e2
   ·simp only [hl];exact e3
  ·rw [Rd.eO rfl (by omega:l.length<n)]
   obtain ⟨h',e1,e2,e3,e4⟩:=r94_short R (by omega:l.length<n)
   exact ⟨none,0,h',e1,rfl,rfl,e2,e3,e4⟩
 ·rw [Rd.take_err he]
  exact ⟨none,0,h,R.ne he,rfl,rfl,R,Kept.refl _ _,rfl⟩
theorem q76 {n:Nat} (h8:n≤8) : ∃ h',CW 76 [ptr r 0,aH n] h=some (.int .u64 ((s.num n).1:Nat),h')∧fA h' p r (s.num n).2∧Kept h h' (fun c=>c=r)∧h'.next=h.next:=by
 obtain ⟨l,e⟩:=s
 by_cases hz:e=0∧n≤l.length
 ·obtain ⟨rfl,hn⟩:=hz
  obtain ⟨h',e1,e2,e3,e4⟩:=r76 R hn h8
  unfold Rd.num
  rw [Rd.ef rfl hn]
  exact ⟨h',e1,e2,e3,e4⟩
 ·have hm:(Rd.take ⟨l,e⟩ n).1 = []:=by
   by_cases he:e=0
   ·rw [Rd.eO he (by
     show l.length<n
     have : ¬n≤l.length:=fun h=>hz ⟨he,h⟩
     omega)]
   ·rw [Rd.take_err he]
  obtain ⟨a,c,h',e1,e2,e3,e4,e5,e6⟩:=q94 R n
  unfold Rd.num
  rw [hm] at e1 ⊢
  refine ⟨h',aF is76 R.g4 rfl ((t76_eq _ _ _ _).trans ?_),e4,e5,e6⟩
  have e1:CW 94 [ptr r 0,aH n] h=some (.slice a 0 c,h'):=e1
  have hl:bG (.slice a 0 c)=some (aH 0):=rfl
  unfold t76
  simp -implicitDefEqProofs only [af,e1,hl,ak]
  refine bY (Q:=fun o:Out=>o=some (Value.int .u64 ((be []:Nat):Int),h')) (bZ (Inv:=fun _ y g=>y 11=aH 0∧y 12=aH 0∧y 5 = .int .u64 0∧g=h') (fin:=fun ex y g=>ex = .exit 0∧y 5 = .int .u64 0∧g=h') (t76l76_11010_eq CW) ?_ 0 (by have:rounds=18446744073709551616:=rfl;omega) ⟨rfl,rfl,rfl,rfl⟩) ?_
  ·rintro k y g ⟨y11,y12,y5,rfl⟩
   unfold t76l76_11010
   simp -implicitDefEqProofs only [y11,y12,dg,ak,af,decide_eq_false (Nat.lt_irrefl 0)]
   exact dd.out 0 ⟨rfl,y5,rfl⟩
  ·rintro ex z g ⟨rfl,z5,rfl⟩
   simp -implicitDefEqProofs only [bE,b76_4,if_true,t76k76_2_eq]
   unfold t76k76_2
   simp -implicitDefEqProofs only [z5,af]
   rfl
theorem q73 : ∃ h',CW 73 [ptr r 0] h=some (.int .u8 ((s.num 1).1:Nat),h')∧fA h' p r (s.num 1).2∧Kept h h' (fun c=>c=r)∧h'.next=h.next:=by
 obtain ⟨h1,e1,e2⟩:=q76 R (n:=1) (by decide)
 refine ⟨h1,aF is73 R.g4 rfl ((t73_eq _ _ _).trans ?_),e2⟩
 have e1:CW 76 [ptr r 0,.int .i64 1] h=_:=e1
 have hb:(s.num 1).1<256:=Rd.cZ R.byte 1
 have hw:IntKind.wrap .u8 (((s.num 1).1:Nat):Int)=((s.num 1).1:Nat):=wrap_u8 (by omega) (by omega)
 unfold t73
 simp -implicitDefEqProofs only [af,e1,bq,hw]
theorem q72 : ∃ h',CW 72 [ptr r 0] h=some (.int .u16 ((s.num 2).1:Nat),h')∧fA h' p r (s.num 2).2∧Kept h h' (fun c=>c=r)∧h'.next=h.next:=by
 obtain ⟨h1,e1,e2⟩:=q76 R (n:=2) (by decide)
 refine ⟨h1,aF is72 R.g4 rfl ((t72_eq _ _ _).trans ?_),e2⟩
 have e1:CW 76 [ptr r 0,.int .i64 2] h=_:=e1
 have hb:(s.num 2).1<65536:=Rd.cZ R.byte 2
 have hw:IntKind.wrap .u16 (((s.num 2).1:Nat):Int)=((s.num 2).1:Nat):=wrap_u16 (by omega) (by omega)
 unfold t72
 simp -implicitDefEqProofs only [af,e1,bq,hw]
theorem q33 : ∃ h',CW 33 [ptr r 0] h=some (.int .u32 ((s.num 4).1:Nat),h')∧fA h' p r (s.num 4).2∧Kept h h' (fun c=>c=r)∧h'.next=h.next:=by
 obtain ⟨h1,e1,e2⟩:=q76 R (n:=4) (by decide)
 refine ⟨h1,aF is33 R.g4 rfl ((t33_eq _ _ _).trans ?_),e2⟩
 have e1:CW 76 [ptr r 0,.int .i64 4] h=_:=e1
 have hb:(s.num 4).1<4294967296:=Rd.cZ R.byte 4
 have hw:IntKind.wrap .u32 (((s.num 4).1:Nat):Int)=((s.num 4).1:Nat):=wrap_u32 (by omega) (by omega)
 unfold t33
 simp -implicitDefEqProofs only [af,e1,bq,hw]
theorem q128 : ∃ h',CW 128 [ptr r 0] h=some (.int .u64 ((s.num 8).1:Nat),h')∧fA h' p r (s.num 8).2∧Kept h h' (fun c=>c=r)∧h'.next=h.next:=by
 obtain ⟨h1,e1,e2⟩:=q76 R (n:=8) (by decide)
 refine ⟨h1,aF is128 R.g4 rfl ((t128_eq _ _ _).trans ?_),e2⟩
 have e1:CW 76 [ptr r 0,.int .i64 8] h=_:=e1
 unfold t128
 simp -implicitDefEqProofs only [af,e1]
theorem q74 {n:Nat} : ∃ a c h',CW 74 [ptr r 0,aH n] h=some (.slice a (s.take n).1.length c,h')∧ay a (s.take n).1.length h'=some (s.take n).1∧cn a (s.take n).1.length c=true∧fA h' p r (s.take n).2∧Kept h h' (fun c=>c=r) ∧
  (∀ y,a=some y→h.next≤y.block):=by
 obtain ⟨a,c,h1,e1,e2,e3,e4,e5,e6⟩:=q94 R n
 have hlen:(s.take n).1.length≤21000:=by
  obtain ⟨l,e⟩:=s
  have:l.length≤21000:=R.len
  unfold Rd.take
  split
  ·split
   ·rw [List.length_take]
    show min n l.length≤_
    omega
   ·exact Nat.zero_le _
  ·exact Nat.zero_le _
 obtain ⟨a',c',h2,f1,f2,f3,f4,f5,_⟩:=r69b (c:=c) e4.g4 e2 hlen
 refine ⟨a',c',h2,aF is74 R.g4 rfl ((t74_eq _ _ _ _).trans ?_),f2,f3,e4.bF (B:=fun _=>False) f4,e5.cE f4 (fun _ _ h=>h.elim),fun y hy=>e6▸(f5 y hy).1⟩
 unfold t74
 simp -implicitDefEqProofs only [af,e1,f1]
theorem q75:CW 75 [ptr r 0] h=some (.int .i64 s.e,h):=r75 R
end
end Go.Proofs.YtjghlcdidopcpaaGreatDoor

namespace Go.Proofs.YtjghlcdidopcpaaGreatDoor
open Go Go.Abs
attribute [local congr] aU
theorem Rd.take_small {s:Rd} (hl:s.l.length≤21000) (n:Nat):(s.take n).1.length≤21000:=by
 unfold Rd.take
 split
 ·split
  ·rw [List.length_take];omega
  ·exact Nat.zero_le _
 ·exact Nat.zero_le _
theorem is135:bO Tryz.prog 135 Tryz.f135:=⟨by kernel_rfl,by kernel_rfl,by kernel_rfl,by kernel_rfl⟩
theorem is36:bO Tryz.prog 36 Tryz.f36:=⟨by kernel_rfl,by kernel_rfl,by kernel_rfl,by kernel_rfl⟩
theorem is130:bO Tryz.prog 130 Tryz.f130:=⟨by kernel_rfl,by kernel_rfl,by kernel_rfl,by kernel_rfl⟩
theorem is149:bO Tryz.prog 149 Tryz.f149:=⟨by kernel_rfl,by kernel_rfl,by kernel_rfl,by kernel_rfl⟩
theorem gtr30 (n:Nat):bin Tryz.prog .gtr 3 (aH n) (.int .i64 0)=some (.bool (decide (0<n))):=gtr3 n 0
def Rd.fin (s:Rd):Int:=if s.e=0 then (if s.l = [] then 0 else 5) else s.e
def eH (m:List Nat):List Nat:=m++List.replicate (32-m.length) 0
section
variable {p r:Nat} {s:Rd} {h:aj} (R:fA h p r s)
include R
theorem q36:CW 36 [ptr r 0] h=some (.int .i64 s.fin,h):=by
 obtain ⟨l,e⟩:=s
 obtain ⟨a,n,c,h1,h2,_⟩:=R.ex
 have hn:l.length=n:=(aw h2).1
 subst hn
 have l0:aN (ptr r 0) h=some (.slice a l.length c,h):=aV h1 rfl
 have hl:bG (.slice a l.length c)=some (aH l.length):=rfl
 have e75:=q75 R
 refine aF is36 R.g4 rfl ((t36_eq _ _ _).trans ?_)
 unfold t36 Rd.fin
 by_cases he:e=0
 ·subst he
  cases l with
  |nil=>
   simp -implicitDefEqProofs only [af,e75,bin28n0,bne_self_eq_false,ak,bS,al,l0,hl,gtr30]
   rfl
  |cons x l=>
   have hd:decide (0<(x::l).length)=true:=by simp
   simp -implicitDefEqProofs only [af,e75,bin28n0,bne_self_eq_false,ak,bS,al,l0,hl,gtr30,hd]
   simp
 ·have hq:(e != 0)=true:=by simpa using he
  simp -implicitDefEqProofs only [af,e75,bin28n0,hq,ak]
  rw [if_neg he]
theorem q135 : ∃ a c h',CW 135 [ptr r 0] h=some (.slice a s.text.1.length c,h')∧ay a s.text.1.length h'=some s.text.1∧cn a s.text.1.length c=true∧fA h' p r s.text.2∧Kept h h' (fun c=>c=r) ∧
  (∀ y,a=some y→h.next≤y.block):=by
 have l1:aN (ptr r 1) h=some (.int .i64 s.e,h):=by
  obtain ⟨a,n,c,h1,_,_⟩:=R.ex
  exact aV h1 rfl
 by_cases he:s.e=0
 ·obtain ⟨a,n,c,h1,h2,h3,hB⟩:=R.ex
  have hn:s.l.length=n:=(aw h2).1
  subst hn
  have l0:aN (ptr r 0) h=some (.slice a s.l.length c,h):=aV h1 rfl
  have hap:=bytes_apart h2 h1 (rd_apart _ _ _ _)
  obtain ⟨g1,e1,R1,k1,n1⟩:=q76 R (n:=2) (by decide)
  have e1:CW 76 [ptr r 0,.int .i64 2] h=some (.int .u64 ((s.num 2).1:Nat),g1):=e1
  have hb:(s.num 2).1<65536:=Rd.cZ R.byte 2
  have hw:IntKind.wrap .i64 (((s.num 2).1:Nat):Int)=((s.num 2).1:Nat):=wrap_i64 (by omega) (by omega)
  obtain ⟨a2,c2,g2,e2,f2,f3,R2,k2,n2⟩:=q94 R1 (s.num 2).1
  have l1':aN (ptr r 1) g2=some (.int .i64 ((s.num 2).2.take (s.num 2).1).2.e,g2):=by
   obtain ⟨a,n,c,h1,_,_⟩:=R2.ex
   exact aV h1 rfl
  have e2:CW 94 [ptr r 0,.int .i64 (((s.num 2).1:Nat):Int)] g1=_:=e2
  have ht:s.text=if ((s.num 2).2.take (s.num 2).1).2.e=0 then (s.num 2).2.take (s.num 2).1 else ([],⟨s.l,((s.num 2).2.take (s.num 2).1).2.e⟩):=by
   unfold Rd.text
   rw [if_pos he]
  have hz:=Rd.take_small R1.len (s.num 2).1
  generalize (s.num 2).2.take (s.num 2).1=S2 at *
  obtain ⟨m,s2⟩:=S2
  by_cases he2:s2.e=0
  ·rw [if_pos he2] at ht
   rw [ht]
   obtain ⟨a',c',g3,i1,i2,i3,i4,i5,_⟩:=r69b (c:=c2) R2.g4 f2 hz
   refine ⟨a',c',g3,aF is135 R.g4 rfl ((t135_eq _ _ _).trans ?_),i2,i3,R2.bF (B:=fun _=>False) i4,(k1.trans k2).cE i4 (fun _ _ h=>h.elim),fun y hy=>by have:=(i5 y hy).1;omega⟩
   unfold t135
   have l1'':aN (ptr r 1) g2=some (.int .i64 0,g2):=by rw [l1',he2]
   have l1:aN (ptr r 1) h=some (.int .i64 0,h):=by rw [l1,he]
   simp -implicitDefEqProofs only [af,eql134,ak,ao,beq_self_eq_true,ai,bS,al,Nat.zero_add,l1,bin28n0,bne_self_eq_false,Bool.false_eq_true,if_false,l0,e1,bq,hw,e2,l1'',i1]
  ·rw [if_neg he2] at ht
   rw [ht]
   obtain ⟨a4,n4,c4,h4,h5,_⟩:=R2.ex
   have hst:bw 1 (ptr r 0) (.slice a s.l.length c) g2=some (undef,g2.set r [.slice a s.l.length c,.int .i64 s2.e]):=stN1_at h4 (by simp) R2.n0 rfl rfl
   have k3:Kept g2 (g2.set r [.slice a s.l.length c,.int .i64 s2.e]) (fun c=>c=r):=Kept.set R2.n0 h4 (.inr rfl)
   have kk:=(k1.trans k2).trans k3
   refine ⟨none,0,_,aF is135 R.g4 rfl ((t135_eq _ _ _).trans ?_),rfl,rfl,⟨⟨a,s.l.length,c,aj.cx R2.n0 h4 _,kk.bytes h2 hap,h3,hB⟩,R2.n0,R.len,R2.g4,R.pr⟩,kk,fun y hy=>by cases hy⟩
   unfold t135
   have hq:(s2.e != 0)=true:=by simpa using he2
   have l1:aN (ptr r 1) h=some (.int .i64 0,h):=by rw [l1,he]
   simp -implicitDefEqProofs only [af,eql134,ak,ao,beq_self_eq_true,ai,bS,al,Nat.zero_add,l1,bin28n0,bne_self_eq_false,Bool.false_eq_true,if_false,l0,e1,bq,hw,e2,l1',hq,hst]
   rfl
 ·have ht:s.text=([],s):=by unfold Rd.text;rw [if_neg he]
  rw [ht]
  have hq:(s.e != 0)=true:=by simpa using he
  refine ⟨none,0,h,aF is135 R.g4 rfl ((t135_eq _ _ _).trans ?_),rfl,rfl,R,Kept.refl _ _,fun y hy=>by cases hy⟩
  unfold t135
  simp -implicitDefEqProofs only [af,eql134,ak,ao,beq_self_eq_true,ai,bS,al,Nat.zero_add,l1,bin28n0,hq,Bool.false_eq_true,if_false]
  rfl
end
end Go.Proofs.YtjghlcdidopcpaaGreatDoor

