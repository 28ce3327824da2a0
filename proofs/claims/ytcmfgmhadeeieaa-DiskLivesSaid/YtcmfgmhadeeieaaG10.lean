/-
  A part of the proof, spaces and names shortened by a program (a claim may hold 1,500,000 bytes).
  Conditions: as each theorem states.
-/
import Derived.Test.YtcmfgmhadeeieaaG9
namespace Go.Proofs.Ytcmfgmhadeeieaa
open Go Go.Abs
def eS (n:Int):Bool:=decide (-9223372036854775808≤n)&&decide (n≤9223372036854775807)
def cost (n:Int):Int:=if n≤106 then 1 else (n-1)/106+1
def sCost:List Value→ah→Out
 | [.int .i64 n],h=>if eS n then some (.int .i64 (cost n),h) else none
 |_,_=>none
theorem sCost_inv {args:List Value} {h h':ah} {v:Value} (e:sCost args h=some (v,h')) : ∃ n,args = [.int .i64 n]∧eS n=true∧v = .int .i64 (cost n)∧h'=h:=by
 unfold sCost at e
 split at e
 ·split at e
  ·cases e;exact ⟨_,rfl,by assumption,rfl,rfl⟩
  ·cases e
 ·cases e
theorem t15_is (C:al) (n:Int) (h:ah) (hn:eS n=true):t15 C (.int .i64 n) h=some (.int .i64 (cost n),h):=by
 simp only [eS,Bool.and_eq_true,decide_eq_true_eq] at hn
 unfold t15 cost
 simp -implicitDefEqProofs only [bin_leq,aj,af]
 by_cases h1:n≤106
 ·simp -implicitDefEqProofs only [h1,decide_true,if_true,af]
 ·simp -implicitDefEqProofs only [h1,decide_false,if_false,gZ,aj,af,bin_quo,dL,ne_eq,Int.reduceEq,not_false_eq_true,not_true]
  rw [bD (x:=n-1) (by omega) (by omega),Int.tdiv_eq_ediv_of_nonneg (by omega),bD (x:=(n-1)/106) (by omega) (by omega),bD (by omega) (by omega)]
theorem is15:cA Try.prog 15 Try.f15:=⟨by kernel_rfl,by kernel_rfl,by kernel_rfl,by kernel_rfl⟩
theorem c15:cq Try.prog 15 sCost:=by
 refine .quiet (cD [] (by simp)) mixed is15 ?_ ?_
 ·intro args h v h' e
  obtain ⟨n,rfl,hn,rfl,rfl⟩:=sCost_inv e
  exact ⟨rfl,fun _=>rfl⟩
 ·intro args h v h' e _ _
  obtain ⟨n,rfl,hn,rfl,rfl⟩:=sCost_inv e
  exact ⟨h',(t15_eq _ _ _).trans (t15_is _ _ _ hn),fun _ _ h=>h⟩
theorem t16_is (C:al) (n:Int) (h:ah) (hn:eS n=true):t16 C (.int .i64 n) h=some (.int .i64 (cost n),h):=by
 simp only [eS,Bool.and_eq_true,decide_eq_true_eq] at hn
 unfold t16
 simp -implicitDefEqProofs only [af]
 obtain ⟨ex,x',h',h1,rfl,rfl,h2⟩:=loop_inv (t16l16_11010_eq C)
  (Inv:=fun k y h1=>h=h1 ∧ ∃ s c,y 4 = .int .i64 s∧y 3 = .int .i64 c∧s≤n ∧ -9223372036854775808≤s∧1≤c∧c+cost s=cost n+1∧(k:Int)=cost s-1)
  (fin:=fun ex y h1=>ex = .exit 0∧h1=h∧y 3 = .int .i64 (cost n))
  (by
   rintro k y _ ⟨rfl,s,c,i4,i3,hs1,hs2,hc1,hc2,hk⟩
   unfold t16l16_11010
   unfold cost at *
   simp -implicitDefEqProofs only [i4,i3,af,dM,aj]
   by_cases hz:s>106
   ·simp -implicitDefEqProofs only [hz,decide_true,af,dL,gZ,aj]
    refine ⟨_,_,_,rfl,.inl ⟨rfl,k-1,?_,rfl,s-106,c+1,?_,?_,by omega,by omega,by omega,?_,?_⟩⟩
    ·omega
    ·simp only [aM,aV,Nat.reduceEqDiff,if_false,if_true]
     rw [bD (by omega) (by omega)]
    ·simp only [aM,aV,Nat.reduceEqDiff,if_false,if_true]
     rw [bD (by omega) (by omega)]
    ·omega
    ·omega
   ·simp -implicitDefEqProofs only [hz,decide_false,af]
    refine ⟨_,_,_,rfl,.inr ⟨by simp,rfl,rfl,?_⟩⟩
    simp only [aM,aV,Nat.reduceEqDiff,if_false,i3]
    congr 1
    omega)
  (k:=(cost n-1).toNat) (x:=up (bs [.int .i64 n]) [(2,.int .i64 0),(3,.int .i64 1),(4,.int .i64 n),(5,.int .i64 n)]) (h:=h)
  (by have:rounds=18446744073709551616:=rfl;unfold cost;omega)
  ⟨rfl,n,1,rfl,rfl,by omega,by omega,by omega,by omega,by unfold cost;omega⟩
 rw [h1]
 simp -implicitDefEqProofs only [bA,b16_4,if_true,t16k16_2_eq]
 unfold t16k16_2
 simp -implicitDefEqProofs only [h2,af]
theorem is16:cA Try.prog 16 Try.f16:=⟨by kernel_rfl,by kernel_rfl,by kernel_rfl,by kernel_rfl⟩
theorem c16:cq Try.prog 16 sCost:=by
 refine .quiet (cD [] (by simp)) mixed is16 ?_ ?_
 ·intro args h v h' e
  obtain ⟨n,rfl,hn,rfl,rfl⟩:=sCost_inv e
  exact ⟨rfl,fun _=>rfl⟩
 ·intro args h v h' e _ _
  obtain ⟨n,rfl,hn,rfl,rfl⟩:=sCost_inv e
  exact ⟨h',(t16_eq _ _ _).trans (t16_is _ _ _ hn),fun _ _ h=>h⟩
noncomputable def okF (f:FuncId):Bool:=match Try.prog.funcs[f]? with|some fn=>fnOk Try.prog fn|none=>false
theorem okF_ok : ∀ f fn,okF f=true→Try.prog.funcs[f]? = some fn→fnOk Try.prog fn=true:=by
 intro f fn h1 h2
 unfold okF at h1
 rw [h2] at h1;exact h1
noncomputable def runX:al:=callF Try.prog okF (fe [(95,s95)]) (fun f=>Nat.beq f 95) 100000 20
theorem runX_sound:cj Try.prog runX:=
 callF_sound (cD _ (by intro p hp;rcases List.mem_singleton.1 hp with rfl;exact c95)) (by decide) mixed okF_ok 20
noncomputable def isTrue (o:Out):Bool:=match o with|some (.bool true,_)=>true|_=>false
theorem isTrue_eq {o:Out} (h:isTrue o=true) : ∃ h1,o=some (.bool true,h1):=by
 unfold isTrue at h
 split at h
 ·exact ⟨_,rfl⟩
 ·cases h
theorem known_runs:isTrue (runX 14 [] (bare Try.prog))=true:=by kernel_rfl
def s14:List Value→ah→Out:=fun args h=>match args with | []=>some (.bool true,h)|_=>none
theorem c14:cq Try.prog 14 s14:=cq.closed runX_sound rfl (isTrue_eq known_runs)
def s3:List Value→ah→Out
 | [.int .i64 n],h=>if eS n then some (.bool true,h) else none
 |_,_=>none
theorem s3_inv {args:List Value} {h h':ah} {v:Value} (e:s3 args h=some (v,h')) : ∃ n,args = [.int .i64 n]∧eS n=true∧v = .bool true∧h'=h:=by
 unfold s3 at e
 split at e
 ·split at e
  ·cases e;exact ⟨_,rfl,by assumption,rfl,rfl⟩
  ·cases e
 ·cases e
abbrev C3:al:=fe [(14,s14),(15,sCost),(16,sCost)]
theorem t3_is (n:Int) (h:ah) (hn:eS n=true):t3 C3 (.int .i64 n) h=some (.bool true,h):=by
 have h14:C3 14 [] h=some (.bool true,h):=rfl
 have h15:C3 15 [.int .i64 n] h=some (.int .i64 (cost n),h):=by simp [C3,fe,sCost,hn]
 have h16:C3 16 [.int .i64 n] h=some (.int .i64 (cost n),h):=by simp [C3,fe,sCost,hn]
 simp only [eS,Bool.and_eq_true,decide_eq_true_eq] at hn
 unfold t3
 generalize C3=C at *
 simp -implicitDefEqProofs only [dM,aj,af]
 by_cases h1:n>16777216
 ·simp -implicitDefEqProofs only [h1,decide_true,h14,af]
 ·have hc:cost n≥1:=by unfold cost;omega
  simp -implicitDefEqProofs only [h1,decide_false,h15,af,eR,aj,hc,decide_true,ay,beq_self_eq_true,aA,h16,eU,if_true,bin_leq]
  by_cases h2:n≤106
  ·simp -implicitDefEqProofs only [h2,decide_true,af,ay,show (some true==some false)=false from rfl,aF,bOf_undef,show ((none:Option Bool)==some true)=false from rfl,if_true,beq_self_eq_true,aA,h14]
  ·have hcv:cost n=(n-1)/106+1:=by unfold cost;rw [if_neg h2]
   have w1:IntKind.wrap .i64 (106*cost n)=106*cost n:=bD (by omega) (by omega)
   have w2:IntKind.wrap .i64 (cost n-1)=cost n-1:=bD (by omega) (by omega)
   have w3:IntKind.wrap .i64 (106*(cost n-1))=106*(cost n-1):=bD (by omega) (by omega)
   have g1:106*cost n≥n:=by omega
   have g2:106*(cost n-1)<n:=by omega
   simp -implicitDefEqProofs only [h2,decide_false,af,ay,beq_self_eq_true,aA,bin_mul,eR,gZ,bT,aj,w1,w2,w3,g1,g2,decide_true,if_true,Bool.false_eq_true,if_false,h14]
theorem is3:cA Try.prog 3 Try.f3:=⟨by kernel_rfl,by kernel_rfl,by kernel_rfl,by kernel_rfl⟩
theorem C3_sound:cj Try.prog C3:=cD _ (by
 intro p hp
 simp only [List.mem_cons,List.not_mem_nil,or_false] at hp
 rcases hp with rfl|rfl|rfl
 ·exact c14
 ·exact c15
 ·exact c16)
theorem c3:cq Try.prog 3 s3:=by
 refine .quiet C3_sound mixed is3 ?_ ?_
 ·intro args h v h' e
  obtain ⟨n,rfl,hn,rfl,rfl⟩:=s3_inv e
  exact ⟨rfl,fun _=>rfl⟩
 ·intro args h v h' e _ _
  obtain ⟨n,rfl,hn,rfl,rfl⟩:=s3_inv e
  exact ⟨h',(t3_eq _ _ _).trans (t3_is _ _ hn),fun _ _ h=>h⟩
end Go.Proofs.Ytcmfgmhadeeieaa

namespace Go.Proofs.Ytcmfgmhadeeieaa
open Go Go.Abs
structure Dk where
 bb:Nat
 n:Nat
 aW:List Nat
 down:Bool
 ca:Bool
 after:Int
 aC:Int
 aU:Int
def Dk.ie (D:Dk):dW := [.slice (some ⟨D.bb,0,none⟩) D.n D.n,.bool D.down,.bool D.ca,.int .i64 D.after,.int .i64 D.aC,.int .i64 D.aU]
structure bf (h:ah) (d:Nat) (D:Dk):Prop where
 ie:h.get d=some D.ie
 aW:h.get D.bb=some (D.aW.map u8)
 len:D.aW.length=128*D.n
 byte : ∀ x∈D.aW,x<256
 dn:h.n0≤d
 bn:h.n0≤D.bb
 ne:d≠D.bb
 small:D.n≤4096
 after:0≤D.after∧D.after≤9223372036854775807
 aC:0≤D.aC∧D.aC≤128
theorem u8_inj : ∀ {l m:List Nat},l.map u8=m.map u8→l=m
 | [],[],_=>rfl
 | [],_::_,h=>by simp at h
 |_::_,[],h=>by simp at h
 |a::l,b::m,h=>by
  simp only [List.map_cons,List.cons.injEq,Value.int.injEq,true_and,Int.natCast_inj] at h
  rw [h.1,u8_inj h.2]
theorem bf.uniq {h:ah} {d:Nat} {D E:Dk} (a:bf h d D) (b:bf h d E):D=E:=by
 have h1:=a.ie.symm.trans b.ie
 cases D with
 |mk bb n aW down ca after aC aU=>
 cases E with
 |mk bb' n' img' down' armed' after' keep' turn'=>
  simp only [Dk.ie,Option.some.injEq,List.cons.injEq,Value.slice.injEq,Addr.mk.injEq,Value.bool.injEq,Value.int.injEq,true_and,and_true] at h1
  obtain ⟨⟨rfl,rfl,_⟩,rfl,rfl,rfl,rfl,rfl⟩:=h1
  have h2:=a.aW.symm.trans b.aW
  have h3:aW=img':=u8_inj (Option.some.inj h2)
  rw [h3]
open Classical in
noncomputable def dkOf (h:ah) (d:Nat):Option Dk:=if hx : ∃ D,bf h d D then some hx.choose else none
theorem bf.of {h:ah} {d:Nat} {D:Dk} (a:bf h d D):dkOf h d=some D:=by
 have hx : ∃ D,bf h d D:=⟨D,a⟩
 unfold dkOf
 rw [dif_pos hx]
 exact congrArg some (hx.choose_spec.uniq a)
theorem fK {h:ah} {d:Nat} {D:Dk} (e:dkOf h d=some D):bf h d D:=by
 unfold dkOf at e
 split at e
 ·rename_i hx
  cases e;exact hx.choose_spec
 ·cases e
theorem bf.mono {h h':ah} {d:Nat} {D:Dk} (a:bf h d D) (hn:h'.n0=h.n0) (hg:h'.get d=h.get d) (hb:h'.get D.bb=h.get D.bb):bf h' d D:=
 ⟨hg.trans a.ie,hb.trans a.aW,a.len,a.byte,hn▸a.dn,hn▸a.bn,a.ne,a.small,a.after,a.aC⟩
section
variable {h:ah} {d:Nat} {D:Dk}
theorem bf.lt (a:bf h d D):d<h.next:=h.aR a.ie
theorem bf.blt (a:bf h d D):D.bb<h.next:=h.aR a.aW
theorem bf.l0 (a:bf h d D):ba (ptr d 0) h=some (.slice (some ⟨D.bb,0,none⟩) D.n D.n,h):=aN a.ie rfl
theorem bf.l1 (a:bf h d D):ba (ptr d 1) h=some (.bool D.down,h):=aN a.ie rfl
theorem bf.l2 (a:bf h d D):ba (ptr d 2) h=some (.bool D.ca,h):=aN a.ie rfl
theorem bf.l3 (a:bf h d D):ba (ptr d 3) h=some (.int .i64 D.after,h):=aN a.ie rfl
theorem bf.l4 (a:bf h d D):ba (ptr d 4) h=some (.int .i64 D.aC,h):=aN a.ie rfl
theorem bf.l5 (a:bf h d D):ba (ptr d 5) h=some (.int .i64 D.aU,h):=aN a.ie rfl
theorem bf.s1 (a:bf h d D) (b:Bool):cf 1 (ptr d 1) (.bool b) h=some (undef,h.set d { D with down:=b }.ie):=dy a.ie (by simp [Dk.ie]) a.dn rfl rfl
theorem bf.s2 (a:bf h d D) (b:Bool):cf 1 (ptr d 2) (.bool b) h=some (undef,h.set d { D with ca:=b }.ie):=dy a.ie (by simp [Dk.ie]) a.dn rfl rfl
theorem bf.s3 (a:bf h d D) (n:Int):cf 1 (ptr d 3) (.int .i64 n) h=some (undef,h.set d { D with after:=n }.ie):=dy a.ie (by simp [Dk.ie]) a.dn rfl rfl
theorem bf.s4 (a:bf h d D) (n:Int):cf 1 (ptr d 4) (.int .i64 n) h=some (undef,h.set d { D with aC:=n }.ie):=dy a.ie (by simp [Dk.ie]) a.dn rfl rfl
theorem bf.s5 (a:bf h d D) (n:Int):cf 1 (ptr d 5) (.int .i64 n) h=some (undef,h.set d { D with aU:=n }.ie):=dy a.ie (by simp [Dk.ie]) a.dn rfl rfl
end
structure Like (D E:Dk):Prop where
 bb:E.bb=D.bb
 n:E.n=D.n
 aW:E.aW=D.aW
theorem bf.setHdr {h:ah} {d:Nat} {D E:Dk} (a:bf h d D) (l:Like D E) (ha:0≤E.after∧E.after≤9223372036854775807) (hk:0≤E.aC∧E.aC≤128):bf (h.set d E.ie) d E:=by
 have hb:(h.set d E.ie).get E.bb=some (E.aW.map u8):=by
  rw [ah.bE a.dn a.lt _ (by rw [l.bb];exact a.ne.symm),l.bb,l.aW];exact a.aW
 exact ⟨ah.bI a.dn a.ie _,hb,by rw [l.aW,l.n];exact a.len,by rw [l.aW];exact a.byte,a.dn,by rw [l.bb];exact a.bn,by rw [l.bb];exact a.ne,by rw [l.n];exact a.small,ha,hk⟩
def dh (h:ah) (d:Nat) (E:Dk):ah:=(h.set d E.ie).set E.bb (E.aW.map u8)
theorem gI {h:ah} {d:Nat} {D E:Dk} (a:bf h d D) (hb:E.bb=D.bb) (c:Nat):(dh h d E).get c=if c=E.bb then some (E.aW.map u8) else if c=d then some E.ie else h.get c:=by
 unfold dh
 by_cases h1:c=E.bb
 ·subst h1
  rw [if_pos rfl]
  refine ah.bI (by rw [hb];exact a.bn) (k:=D.aW.map u8) ?_ _
  rw [ah.bE a.dn a.lt _ (by rw [hb];exact a.ne.symm),hb];exact a.aW
 ·rw [if_neg h1,ah.bE (by rw [hb];exact a.bn) (by rw [hb];exact a.blt) _ h1]
  by_cases h2:c=d
  ·subst h2;rw [if_pos rfl];exact ah.bI a.dn a.ie _
  ·rw [if_neg h2];exact ah.bE a.dn a.lt _ h2
structure Okd (D E:Dk):Prop where
 bb:E.bb=D.bb
 n:E.n=D.n
 len:E.aW.length=D.aW.length
 byte : ∀ x∈E.aW,x<256
 after:0≤E.after∧E.after≤9223372036854775807
 aC:0≤E.aC∧E.aC≤128
theorem bf.put {h:ah} {d:Nat} {D E:Dk} (a:bf h d D) (l:Okd D E):bf (dh h d E) d E:=by
 refine ⟨?_,?_,by rw [l.len,l.n];exact a.len,l.byte,a.dn,by rw [l.bb];exact a.bn,by rw [l.bb];exact a.ne,by rw [l.n];exact a.small,l.after,l.aC⟩
 ·rw [gI a l.bb,if_neg (by rw [l.bb];exact a.ne),if_pos rfl]
 ·rw [gI a l.bb,if_pos rfl]
theorem bd_u8 (n:Nat) : ∀ l:List Nat,ek n (l.map u8)=true
 | []=>rfl
 |x::l=>by
  have:=bd_u8 n l
  simp only [List.map_cons,ek,dm,Bool.true_and];exact this
theorem bd_hdr {D:Dk} {n:Nat} (hb:D.bb<n):ek n D.ie=true:=by simp [Dk.ie,ek,dm,hb]
theorem bf.put_bd {h:ah} {d:Nat} {D E:Dk} (a:bf h d D) (hb:E.bb=D.bb) (hh:bq h):bq (dh h d E):=by
 intro c k hc
 rw [gI a hb] at hc
 have hn:(dh h d E).next=h.next:=rfl
 rw [hn]
 split at hc
 ·cases hc;exact bd_u8 _ _
 ·split at hc
  ·cases hc;exact bd_hdr (by rw [hb];exact a.blt)
  ·exact hh c k hc
theorem bf.put_grow {h:ah} {d:Nat} {E:Dk}:cR h (dh h d E):=⟨Nat.le_refl _,rfl,rfl⟩
theorem onDisk {C:al} (hC:cj Try.prog C) {f:FuncId} {fn:Func} (i:cA Try.prog f fn) {s:List Value→ah→Out}
  (told : ∀ args h v h',s args h=some (v,h')→(∀ n,dm n v=true)∧(h'=h ∨ ∃ d D E,bf h d D∧E.bb=D.bb∧h'=dh h d E))
  (body : ∀ args h v h',s args h=some (v,h')→ek h.next args=true→bq h → ∃ h1,bw Try.prog C fn args h=some (v,h1) ∧ ∀ b k,h'.n0≤b→h'.get b=some k→h1.get b=some k):cq Try.prog f s:=by
 refine .mk' hC mixed i ?_ ?_
 ·intro args h v h' e
  obtain ⟨h2,rfl|⟨d,D,E,h3,h4,rfl⟩⟩:=told _ _ _ _ e
  ·exact ⟨cR.refl _,fun _ h5=>⟨h2 _,h5⟩⟩
  ·exact ⟨bf.put_grow,fun _ h5=>⟨h2 _,h3.put_bd h4 h5⟩⟩
 ·intro args h v h' e h1 h2
  obtain ⟨g,h4,h5⟩:=body _ _ _ _ e h1 h2
  obtain ⟨h6,rfl|⟨d,D,E,h7,h8,rfl⟩⟩:=told _ _ _ _ e
  ·exact ⟨v,g,id,h4,.sub (h6 _) h2 h5⟩
  ·exact ⟨v,g,id,h4,.sub (h6 _) (h7.put_bd h8 h2) h5⟩
@[simp] theorem nil27e (b o : Nat) : bin Try.prog .eql 27 (ptr b o) (.pointer none) = some (.bool false) := by kernel_rfl
@[simp] theorem nil27e' : bin Try.prog .eql 27 (.pointer none) (.pointer none) = some (.bool true) := by kernel_rfl
@[simp] theorem nil27n (b o : Nat) : bin Try.prog .neq 27 (ptr b o) (.pointer none) = some (.bool true) := by kernel_rfl
@[simp] theorem nil27n' : bin Try.prog .neq 27 (.pointer none) (.pointer none) = some (.bool false) := by kernel_rfl
theorem sf:(some true==some false)=false:=rfl
theorem fs:(some false==some true)=false:=rfl
theorem nf:((none:Option Bool)==some false)=false:=rfl
def Dk.fault (D:Dk) (i:Int):Int:=if D.down then 9 else if i<0∨(D.n:Int)≤i then 2 else 0
noncomputable def s53:List Value→ah→Out
 | [.pointer none,.int .i64 _],h=>some (.int .i64 1,h)
 | [.pointer (some ⟨d,0,none⟩),.int .i64 i],h=>match dkOf h d with
   |some D=>some (.int .i64 (D.fault i),h)
   |none=>none
 |_,_=>none
theorem t53_nil (C:al) (i:Int) (h:ah):t53 C (.pointer none) (.int .i64 i) h=some (.int .i64 1,h):=by
 unfold t53
 simp -implicitDefEqProofs only [af,nil27e',aj]
theorem t53_is (C:al) {d:Nat} {D:Dk} (i:Int) {h:ah} (a:bf h d D):t53 C (ptr d 0) (.int .i64 i) h=some (.int .i64 (D.fault i),h):=by
 unfold t53 Dk.fault
 simp -implicitDefEqProofs only [af,nil27e,aj,aJ,ax,Nat.zero_add,a.l1]
 cases D.down with
 |true=>rfl
 |false=>
  simp -implicitDefEqProofs only [af,aj,bT,ay,Bool.false_eq_true,if_false]
  by_cases h1:i<0
  ·simp -implicitDefEqProofs only [h1,decide_true,sf,aF,af,if_true,true_or]
  ·simp -implicitDefEqProofs only [h1,decide_false,beq_self_eq_true,aA,af,aj,aJ,ax,Nat.zero_add,a.l0,bO,eR,false_or,Bool.false_eq_true,if_false]
   by_cases h2:(D.n:Int)≤i
   ·simp -implicitDefEqProofs only [h2,ge_iff_le,decide_true,if_true]
   ·simp -implicitDefEqProofs only [h2,ge_iff_le,decide_false,if_false]
theorem is53:cA Try.prog 53 Try.f53:=⟨by kernel_rfl,by kernel_rfl,by kernel_rfl,by kernel_rfl⟩
theorem c53:cq Try.prog 53 s53:=by
 have key : ∀ args h v h',s53 args h=some (v,h')→(∃ i,args = [.pointer none,.int .i64 i]∧v = .int .i64 1∧h'=h)∨(∃ d D i,args = [ptr d 0,.int .i64 i]∧bf h d D∧v = .int .i64 (D.fault i)∧h'=h):=by
  intro args h v h' e
  unfold s53 at e
  split at e
  ·cases e;exact .inl ⟨_,rfl,rfl,rfl⟩
  ·split at e
   ·cases e;exact .inr ⟨_,_,_,rfl,fK (by assumption),rfl,rfl⟩
   ·cases e
  ·cases e
 refine onDisk (cD [] (by simp)) is53 ?_ ?_
 ·intro args h v h' e
  rcases key _ _ _ _ e with ⟨i,rfl,rfl,rfl⟩|⟨d,D,i,rfl,a,rfl,rfl⟩
  ·exact ⟨fun _=>rfl,.inl rfl⟩
  ·exact ⟨fun _=>rfl,.inl rfl⟩
 ·intro args h v h' e _ _
  rcases key _ _ _ _ e with ⟨i,rfl,rfl,rfl⟩|⟨d,D,i,rfl,a,rfl,rfl⟩
  ·exact ⟨h',(t53_eq _ _ _ _).trans (t53_nil _ _ _),fun _ _ _ h=>h⟩
  ·exact ⟨h',(t53_eq _ _ _ _).trans (t53_is _ _ a),fun _ _ _ h=>h⟩
end Go.Proofs.Ytcmfgmhadeeieaa

namespace Go.Proofs.Ytcmfgmhadeeieaa
open Go Go.Abs
structure Upd (h:ah) (d:Nat) (D E:Dk) (g:ah):Prop where
 n0:g.n0=h.n0
 next:g.next=h.next
 was:bf h d D
 is:bf g d E
 like:Like D E
 get : ∀ c,c≠d→g.get c=h.get c
theorem Upd.refl {h:ah} {d:Nat} {D:Dk} (a:bf h d D):Upd h d D D h:=⟨rfl,rfl,a,a,⟨rfl,rfl,rfl⟩,fun _ _=>rfl⟩
theorem Upd.step {h g:ah} {d:Nat} {D E F:Dk} (u:Upd h d D E g) (l:Like E F) (ha:0≤F.after∧F.after≤9223372036854775807) (hk:0≤F.aC∧F.aC≤128):Upd h d D F (g.set d F.ie) where
 n0:=u.n0
 next:=u.next
 was:=u.was
 is:=u.is.setHdr l ha hk
 like:=⟨l.bb.trans u.like.bb,l.n.trans u.like.n,l.aW.trans u.like.aW⟩
 get c hc:=(ah.bE u.is.dn u.is.lt _ hc).trans (u.get c hc)
theorem Upd.told {h g:ah} {d:Nat} {D E:Dk} (u:Upd h d D E g) : ∀ b k,(dh h d E).n0≤b→(dh h d E).get b=some k→g.get b=some k:=by
 intro b k _ hb
 rw [gI u.was u.like.bb] at hb
 split at hb
 ·cases hb;rename_i e;rw [e];exact u.is.aW
 ·split at hb
  ·cases hb;rename_i e;rw [e];exact u.is.ie
  ·rw [u.get b (by assumption)];exact hb
theorem putDk_self {h:ah} {d:Nat} {D:Dk} (a:bf h d D) : ∀ b k,h.get b=some k↔(dh h d D).get b=some k:=by
 intro b k
 rw [gI a rfl]
 split
 ·rename_i e;rw [e,a.aW]
 ·split
  ·rename_i e;rw [e,a.ie]
  ·exact Iff.rfl
section bytes
def cJ (l:List Nat) (off:Nat) (xs:List Nat):List Nat:=l.take off++xs++l.drop (off+xs.length)
theorem spliceN_map (l:List Nat) (off:Nat) (xs:List Nat):cL (l.map u8) off (xs.map u8)=(cJ l off xs).map u8:=by
 simp [cL,cJ]
theorem eP {l:List Nat} {off:Nat} {xs:List Nat} (h:off+xs.length≤l.length):(cJ l off xs).length=l.length:=by
 simp [cJ];omega
theorem spliceN_byte {l:List Nat} {off:Nat} {xs:List Nat} (hl : ∀ x∈l,x<256) (hx : ∀ x∈xs,x<256) : ∀ x∈cJ l off xs,x<256:=by
 intro x h
 simp only [cJ,List.mem_append] at h
 rcases h with (h|h)|h
 ·exact hl x (List.mem_of_mem_take h)
 ·exact hx x h
 ·exact hl x (List.mem_of_mem_drop h)
theorem one_u8 : ∀ l:List Nat,bK (l.map u8)=true
 | []=>rfl
 |x::l=>by
  have:=one_u8 l
  simp only [bK,List.map_cons,List.all_cons] at this ⊢
  rw [this];rfl
theorem firstA_of {a:Option Addr} {n c:Nat} {h:ah} {l:List Nat} (e:av a n h=some l) {m:Nat} (hm:m≤n):bW 1 m (.slice a n c) h=some ((l.take m).map u8):=by
 unfold av at e
 rw [Option.bind_eq_some_iff] at e
 obtain ⟨cs,h1,h2⟩:=e
 obtain ⟨rfl,h3⟩:=bytesOf_eq h2
 cases a with
 |none=>
  simp only [bW] at h1 ⊢
  split at h1
  ·cases l with
   |nil=>simp;omega
   |cons=>simp at h1
  ·cases h1
 |some x=>
  obtain ⟨b,off,s⟩:=x
  simp only [bW,Nat.mul_one] at h1 ⊢
  by_cases hm0:m=0
  ·subst hm0;simp
  ·rw [if_neg hm0]
   rw [if_neg (by omega)] at h1
   cases hk:h.get b with
   |none=>rw [hk] at h1;cases h1
   |some k=>
    rw [hk] at h1
    simp only at h1 ⊢
    split at h1
    ·rename_i hl0
     have hl1:=hl0.1
     simp only [Option.some.injEq] at h1
     have hk2:List.take m (List.drop off k)=(l.take m).map u8:=by rw [List.map_take,←h1,List.take_take,Nat.min_eq_left hm]
     rw [if_pos ⟨by omega,by rw [hk2];exact ic _⟩,hk2]
    ·cases h1
theorem copy_bytes {h:ah} {b off dl dc n c:Nat} {s:Option Nat} {a:Option Addr} {aW l:List Nat} (hb:h.get b=some (aW.map u8)) (h0:h.n0≤b) (hs:av a n h=some l) (hlen:off+min n dl≤aW.length) :
  ∃ g,copyA 1 (.slice (some ⟨b,off,s⟩) dl dc) (.slice a n c) h=some (aq (min n dl),g)∧g.n0=h.n0∧g.next=h.next∧g.get b=some ((cJ aW off (l.take (min n dl))).map u8)∧(∀ e,e≠b→g.get e=h.get e):=by
 have hl:=(aw hs).1
 unfold copyA
 simp only [lenA]
 rw [firstA_of hs (Nat.min_le_left n dl)]
 simp only
 by_cases h1:min n dl=0
 ·rw [if_pos h1]
  refine ⟨h,rfl,rfl,rfl,?_,fun _ _=>rfl⟩
  rw [h1,hb];simp [cJ]
 ·rw [if_neg h1]
  refine ⟨h.set b ((cJ aW off (l.take (min n dl))).map u8),?_,rfl,rfl,ah.bI h0 hb _,fun e he=>ah.bE h0 (h.aR hb) _ he⟩
  unfold stL
  simp only [hb]
  rw [if_pos (by simp only [one_u8,List.length_map,List.length_take,Bool.and_true,Bool.and_eq_true,decide_eq_true_eq];exact ⟨h0,by omega⟩),spliceN_map]
  rfl
end bytes
theorem s53_at {h:ah} {d:Nat} {D:Dk} (i:Int) (a:bf h d D):s53 [ptr d 0,.int .i64 i] h=some (.int .i64 (D.fault i),h):=by
 unfold s53 ptr
 simp only [a.of]
def Dk.off (D:Dk):Dk:=if D.down then D else { D with down:=true,ca:=false,aU:=IntKind.wrap .i64 (D.aU+1) }
theorem Dk.fW (D:Dk):Like D D.off:=by unfold Dk.off;split<;>exact ⟨rfl,rfl,rfl⟩
noncomputable def s32:List Value→ah→Out
 | [.pointer none],h=>some (.tuple #[],h)
 | [.pointer (some ⟨d,0,none⟩)],h=>match dkOf h d with
   |some D=>some (.tuple #[],dh h d D.off)
   |none=>none
 |_,_=>none
theorem t32_nil (C:al) (h:ah):t32 C (.pointer none) h=some (.tuple #[],h):=by
 unfold t32
 simp -implicitDefEqProofs only [af,nil27e',aj,ay,sf,aF,if_true]
theorem t32_is (C:al) {d:Nat} {D:Dk} {h:ah} (a:bf h d D) : ∃ g,t32 C (ptr d 0) h=some (.tuple #[],g)∧Upd h d D D.off g:=by
 unfold t32 Dk.off
 simp -implicitDefEqProofs only [af,nil27e,aj,ay,beq_self_eq_true,aA,aJ,ax,Nat.zero_add,a.l1,Bool.false_eq_true,if_false]
 cases hd:D.down with
 |true=>exact ⟨h,rfl,by rw [if_pos rfl];exact .refl a⟩
 |false=>
  have u1:Upd h d D { D with down:=true } _:=(Upd.refl a).step ⟨rfl,rfl,rfl⟩ a.after a.aC
  have u2:Upd h d D { D with down:=true,ca:=false } _:=u1.step ⟨rfl,rfl,rfl⟩ a.after a.aC
  have u3:Upd h d D { D with down:=true,ca:=false,aU:=IntKind.wrap .i64 (D.aU+1) } _:=u2.step ⟨rfl,rfl,rfl⟩ a.after a.aC
  simp -implicitDefEqProofs only [a.s1,u1.is.s2,u2.is.l5,u2.is.s5,af,dL,aj,Bool.false_eq_true,if_false]
  exact ⟨_,rfl,u3⟩
theorem is32:cA Try.prog 32 Try.f32:=⟨by kernel_rfl,by kernel_rfl,by kernel_rfl,by kernel_rfl⟩
theorem s32_inv {args:List Value} {h h':ah} {v:Value} (e:s32 args h=some (v,h')):(args = [.pointer none]∧v = .tuple #[]∧h'=h) ∨ ∃ d D,args = [ptr d 0]∧bf h d D∧v = .tuple #[]∧h'=dh h d D.off:=by
 unfold s32 at e
 split at e
 ·cases e;exact .inl ⟨rfl,rfl,rfl⟩
 ·split at e
  ·cases e;exact .inr ⟨_,_,rfl,fK (by assumption),rfl,rfl⟩
  ·cases e
 ·cases e
theorem c32:cq Try.prog 32 s32:=by
 refine onDisk (cD [] (by simp)) is32 ?_ ?_
 ·intro args h v h' e
  rcases s32_inv e with ⟨rfl,rfl,rfl⟩|⟨d,D,rfl,a,rfl,rfl⟩
  ·exact ⟨fun _=>rfl,.inl rfl⟩
  ·exact ⟨fun _=>rfl,.inr ⟨d,D,_,a,D.fW.bb,rfl⟩⟩
 ·intro args h v h' e _ _
  rcases s32_inv e with ⟨rfl,rfl,rfl⟩|⟨d,D,rfl,a,rfl,rfl⟩
  ·exact ⟨h',(t32_eq _ _ _).trans (t32_nil _ _),fun _ _ _ h=>h⟩
  ·obtain ⟨g,h1,u⟩:=t32_is (fe []) a
   exact ⟨g,(t32_eq _ _ _).trans h1,u.told⟩
def Dk.on (D:Dk):Dk:={ D with down:=false,ca:=false }
noncomputable def s33:List Value→ah→Out
 | [.pointer none],h=>some (.tuple #[],h)
 | [.pointer (some ⟨d,0,none⟩)],h=>match dkOf h d with
   |some D=>some (.tuple #[],dh h d D.on)
   |none=>none
 |_,_=>none
theorem t33_nil (C:al) (h:ah):t33 C (.pointer none) h=some (.tuple #[],h):=by
 unfold t33
 simp -implicitDefEqProofs only [af,nil27n',aj]
theorem t33_is (C:al) {d:Nat} {D:Dk} {h:ah} (a:bf h d D) : ∃ g,t33 C (ptr d 0) h=some (.tuple #[],g)∧Upd h d D D.on g:=by
 unfold t33 Dk.on
 have u1:Upd h d D { D with down:=false } _:=(Upd.refl a).step ⟨rfl,rfl,rfl⟩ a.after a.aC
 have u2:Upd h d D { D with down:=false,ca:=false } _:=u1.step ⟨rfl,rfl,rfl⟩ a.after a.aC
 simp -implicitDefEqProofs only [af,nil27n,aj,aJ,ax,Nat.zero_add,a.s1,u1.is.s2]
 exact ⟨_,rfl,u2⟩
theorem is33:cA Try.prog 33 Try.f33:=⟨by kernel_rfl,by kernel_rfl,by kernel_rfl,by kernel_rfl⟩
theorem s33_inv {args:List Value} {h h':ah} {v:Value} (e:s33 args h=some (v,h')):(args = [.pointer none]∧v = .tuple #[]∧h'=h) ∨ ∃ d D,args = [ptr d 0]∧bf h d D∧v = .tuple #[]∧h'=dh h d D.on:=by
 unfold s33 at e
 split at e
 ·cases e;exact .inl ⟨rfl,rfl,rfl⟩
 ·split at e
  ·cases e;exact .inr ⟨_,_,rfl,fK (by assumption),rfl,rfl⟩
  ·cases e
 ·cases e
theorem c33:cq Try.prog 33 s33:=by
 refine onDisk (cD [] (by simp)) is33 ?_ ?_
 ·intro args h v h' e
  rcases s33_inv e with ⟨rfl,rfl,rfl⟩|⟨d,D,rfl,a,rfl,rfl⟩
  ·exact ⟨fun _=>rfl,.inl rfl⟩
  ·exact ⟨fun _=>rfl,.inr ⟨d,D,D.on,a,rfl,rfl⟩⟩
 ·intro args h v h' e _ _
  rcases s33_inv e with ⟨rfl,rfl,rfl⟩|⟨d,D,rfl,a,rfl,rfl⟩
  ·exact ⟨h',(t33_eq _ _ _).trans (t33_nil _ _),fun _ _ _ h=>h⟩
  ·obtain ⟨g,h1,u⟩:=t33_is (fe []) a
   exact ⟨g,(t33_eq _ _ _).trans h1,u.told⟩
end Go.Proofs.Ytcmfgmhadeeieaa

namespace Go.Proofs.Ytcmfgmhadeeieaa
open Go Go.Abs
noncomputable def s36:List Value→ah→Out
 | [.pointer none],h=>some (.bool false,h)
 | [.pointer (some ⟨d,0,none⟩)],h=>match dkOf h d with
   |some D=>some (.bool D.down,h)
   |none=>none
 |_,_=>none
theorem s36_at {h:ah} {d:Nat} {D:Dk} (a:bf h d D):s36 [ptr d 0] h=some (.bool D.down,h):=by
 unfold s36 ptr
 simp only [a.of]
theorem t36_nil (C:al) (h:ah):t36 C (.pointer none) h=some (.bool false,h):=by
 unfold t36
 simp -implicitDefEqProofs only [af,nil27n',aj,ay,fs,aF,Bool.false_eq_true,if_false]
theorem t36_is (C:al) {d:Nat} {D:Dk} {h:ah} (a:bf h d D):t36 C (ptr d 0) h=some (.bool D.down,h):=by
 unfold t36
 simp -implicitDefEqProofs only [af,nil27n,aj,ay,beq_self_eq_true,aA,aJ,ax,Nat.zero_add,a.l1,if_true]
theorem is36:cA Try.prog 36 Try.f36:=⟨by kernel_rfl,by kernel_rfl,by kernel_rfl,by kernel_rfl⟩
theorem c36:cq Try.prog 36 s36:=by
 have key : ∀ args h v h',s36 args h=some (v,h')→(args = [.pointer none]∧v = .bool false∧h'=h) ∨ ∃ d D,args = [ptr d 0]∧bf h d D∧v = .bool D.down∧h'=h:=by
  intro args h v h' e
  unfold s36 at e
  split at e
  ·cases e;exact .inl ⟨rfl,rfl,rfl⟩
  ·split at e
   ·cases e;exact .inr ⟨_,_,rfl,fK (by assumption),rfl,rfl⟩
   ·cases e
  ·cases e
 refine onDisk (cD [] (by simp)) is36 ?_ ?_
 ·intro args h v h' e
  rcases key _ _ _ _ e with ⟨rfl,rfl,rfl⟩|⟨d,D,rfl,a,rfl,rfl⟩
  ·exact ⟨fun _=>rfl,.inl rfl⟩
  ·exact ⟨fun _=>rfl,.inl rfl⟩
 ·intro args h v h' e _ _
  rcases key _ _ _ _ e with ⟨rfl,rfl,rfl⟩|⟨d,D,rfl,a,rfl,rfl⟩
  ·exact ⟨h',(t36_eq _ _ _).trans (t36_nil _ _),fun _ _ _ h=>h⟩
  ·exact ⟨h',(t36_eq _ _ _).trans (t36_is _ a),fun _ _ _ h=>h⟩
noncomputable def s50:List Value→ah→Out
 | [.pointer none],h=>some (.int .i64 0,h)
 | [.pointer (some ⟨d,0,none⟩)],h=>match dkOf h d with
   |some D=>some (aq D.n,h)
   |none=>none
 |_,_=>none
theorem t50_nil (C:al) (h:ah):t50 C (.pointer none) h=some (.int .i64 0,h):=by
 unfold t50
 simp -implicitDefEqProofs only [af,nil27e',aj]
theorem t50_is (C:al) {d:Nat} {D:Dk} {h:ah} (a:bf h d D):t50 C (ptr d 0) h=some (aq D.n,h):=by
 unfold t50
 simp -implicitDefEqProofs only [af,nil27e,aj,aJ,ax,Nat.zero_add,a.l0,bO]
theorem is50:cA Try.prog 50 Try.f50:=⟨by kernel_rfl,by kernel_rfl,by kernel_rfl,by kernel_rfl⟩
theorem c50:cq Try.prog 50 s50:=by
 have key : ∀ args h v h',s50 args h=some (v,h')→(args = [.pointer none]∧v = .int .i64 0∧h'=h) ∨ ∃ d D,args = [ptr d 0]∧bf h d D∧v=aq D.n∧h'=h:=by
  intro args h v h' e
  unfold s50 at e
  split at e
  ·cases e;exact .inl ⟨rfl,rfl,rfl⟩
  ·split at e
   ·cases e;exact .inr ⟨_,_,rfl,fK (by assumption),rfl,rfl⟩
   ·cases e
  ·cases e
 refine onDisk (cD [] (by simp)) is50 ?_ ?_
 ·intro args h v h' e
  rcases key _ _ _ _ e with ⟨rfl,rfl,rfl⟩|⟨d,D,rfl,a,rfl,rfl⟩
  ·exact ⟨fun _=>rfl,.inl rfl⟩
  ·exact ⟨fun _=>rfl,.inl rfl⟩
 ·intro args h v h' e _ _
  rcases key _ _ _ _ e with ⟨rfl,rfl,rfl⟩|⟨d,D,rfl,a,rfl,rfl⟩
  ·exact ⟨h',(t50_eq _ _ _).trans (t50_nil _ _),fun _ _ _ h=>h⟩
  ·exact ⟨h',(t50_eq _ _ _).trans (t50_is _ a),fun _ _ _ h=>h⟩
def Dk.arm (D:Dk) (after aC:Int):Int×Dk:=
 if D.down then (9,D) else if after<0∨aC<0∨128<aC then (2,D) else (0,{ D with ca:=true,after:=after,aC:=aC })
theorem Dk.arm_like (D:Dk) (a k:Int):Like D (D.arm a k).2:=by
 unfold Dk.arm
 split
 ·exact ⟨rfl,rfl,rfl⟩
 ·split<;>exact ⟨rfl,rfl,rfl⟩
noncomputable def s48:List Value→ah→Out
 | [.pointer none,.int .i64 _,.int .i64 _],h=>some (.int .i64 1,h)
 | [.pointer (some ⟨d,0,none⟩),.int .i64 a,.int .i64 k],h=>match dkOf h d with
   |some D=>if a≤9223372036854775807 then some (.int .i64 (D.arm a k).1,dh h d (D.arm a k).2) else none
   |none=>none
 |_,_=>none
theorem t48_nil (C:al) (a k:Int) (h:ah):t48 C (.pointer none) (.int .i64 a) (.int .i64 k) h=some (.int .i64 1,h):=by
 unfold t48
 simp -implicitDefEqProofs only [af,nil27e',aj]
theorem t48_is (C:al) {d:Nat} {D:Dk} {h:ah} (a k:Int) (ha:a≤9223372036854775807) (x:bf h d D) : ∃ g,t48 C (ptr d 0) (.int .i64 a) (.int .i64 k) h=some (.int .i64 (D.arm a k).1,g)∧Upd h d D (D.arm a k).2 g:=by
 unfold t48 Dk.arm
 simp -implicitDefEqProofs only [af,nil27e,aj,aJ,ax,Nat.zero_add,x.l1]
 cases hd:D.down with
 |true=>exact ⟨h,rfl,.refl x⟩
 |false=>
  simp -implicitDefEqProofs only [af,aj,bT,ay,Bool.false_eq_true,if_false]
  by_cases h1:a<0
  ·simp -implicitDefEqProofs only [h1,decide_true,sf,aF,af,if_true,ay,true_or]
   exact ⟨h,rfl,.refl x⟩
  ·simp -implicitDefEqProofs only [h1,decide_false,beq_self_eq_true,aA,af,aj,bT,ay,false_or,Bool.false_eq_true,if_false]
   by_cases h2:k<0
   ·simp -implicitDefEqProofs only [h2,decide_true,sf,aF,af,if_true,ay,true_or]
    exact ⟨h,rfl,.refl x⟩
   ·simp -implicitDefEqProofs only [h2,decide_false,beq_self_eq_true,aA,af,aj,dM,ay,false_or,Bool.false_eq_true,if_false]
    by_cases h3:k>128
    ·simp -implicitDefEqProofs only [h3,decide_true,if_true,af]
     exact ⟨h,rfl,.refl x⟩
    ·have u1:Upd h d D { D with ca:=true } _:=(Upd.refl x).step ⟨rfl,rfl,rfl⟩ x.after x.aC
     have u2:Upd h d D { D with ca:=true,after:=a } _:=u1.step ⟨rfl,rfl,rfl⟩ ⟨by show 0≤a;omega,ha⟩ x.aC
     have u3:Upd h d D { D with ca:=true,after:=a,aC:=k } _:=u2.step ⟨rfl,rfl,rfl⟩ ⟨by show 0≤a;omega,ha⟩ ⟨by show 0≤k;omega,by show k≤128;omega⟩
     simp -implicitDefEqProofs only [h3,decide_false,if_false,af,aj,aJ,ax,Nat.zero_add,x.s2,u1.is.s3,u2.is.s4]
     refine ⟨_,rfl,?_⟩
     rw [←hd]
     exact u3
theorem is48:cA Try.prog 48 Try.f48:=⟨by kernel_rfl,by kernel_rfl,by kernel_rfl,by kernel_rfl⟩
theorem s48_inv {args:List Value} {h h':ah} {v:Value} (e:s48 args h=some (v,h')):(∃ a k,args = [.pointer none,.int .i64 a,.int .i64 k]∧v = .int .i64 1∧h'=h) ∨
  ∃ d D a k,args = [ptr d 0,.int .i64 a,.int .i64 k]∧bf h d D∧a≤9223372036854775807∧v = .int .i64 (D.arm a k).1∧h'=dh h d (D.arm a k).2:=by
 unfold s48 at e
 split at e
 ·cases e;exact .inl ⟨_,_,rfl,rfl,rfl⟩
 ·split at e
  ·split at e
   ·cases e;exact .inr ⟨_,_,_,_,rfl,fK (by assumption),by assumption,rfl,rfl⟩
   ·cases e
  ·cases e
 ·cases e
theorem c48:cq Try.prog 48 s48:=by
 refine onDisk (cD [] (by simp)) is48 ?_ ?_
 ·intro args h v h' e
  rcases s48_inv e with ⟨_,_,rfl,rfl,rfl⟩|⟨d,D,a,k,rfl,x,ha,rfl,rfl⟩
  ·exact ⟨fun _=>rfl,.inl rfl⟩
  ·exact ⟨fun _=>rfl,.inr ⟨d,D,(D.arm a k).2,x,(D.arm_like a k).bb,rfl⟩⟩
 ·intro args h v h' e _ _
  rcases s48_inv e with ⟨_,_,rfl,rfl,rfl⟩|⟨d,D,a,k,rfl,x,ha,rfl,rfl⟩
  ·exact ⟨h',(t48_eq _ _ _ _ _).trans (t48_nil _ _ _ _),fun _ _ _ h=>h⟩
  ·obtain ⟨g,h1,u⟩:=t48_is (fe []) a k ha x
   exact ⟨g,(t48_eq _ _ _ _ _).trans h1,u.told⟩
def Dk.lay (D:Dk) (i:Int) (l:List Nat):Dk:={ D with aW:=cJ D.aW (i.toNat*128) l }
def Dk.write (D:Dk) (i:Int) (l:List Nat):Int×Dk:=
 if D.fault i=0 then
  if l.length=128 then
   if D.ca then
    if D.after=0 then (9,(D.lay i (l.take D.aC.toNat)).off)
    else (0,{ D.lay i l with after:=D.after-1 })
   else (0,D.lay i l)
  else (10,D)
 else (D.fault i,D)
theorem Dk.gD {D:Dk} {i:Int} (h:D.fault i=0):D.down=false∧0≤i∧i<D.n:=by
 unfold Dk.fault at h
 split at h
 ·cases h
 ·split at h
  ·cases h
  ·rename_i h1 h2
   refine ⟨by simpa using h1,by omega,by omega⟩
theorem Dk.lay_okd {h:ah} {d:Nat} {D:Dk} (a:bf h d D) {i:Int} {l:List Nat} (hi:D.fault i=0) (hl:l.length≤128) (hb : ∀ x∈l,x<256):Okd D (D.lay i l):=by
 obtain ⟨_,h1,h2⟩:=Dk.gD hi
 refine ⟨rfl,rfl,?_,?_,a.after,a.aC⟩
 ·exact eP (by have:=a.len;omega)
 ·exact spliceN_byte a.byte hb
theorem Dk.write_okd {h:ah} {d:Nat} {D:Dk} (a:bf h d D) (i:Int) {l:List Nat} (hb : ∀ x∈l,x<256):Okd D (D.write i l).2:=by
 have r:Okd D D:=⟨rfl,rfl,rfl,a.byte,a.after,a.aC⟩
 unfold Dk.write
 split
 ·rename_i hf
  split
  ·rename_i hl
   have o1:=Dk.lay_okd a hf (by omega) hb
   split
   ·split
    ·have o:=Dk.lay_okd a (l:=l.take D.aC.toNat) hf (by simp;omega) (fun x hx=>hb x (List.mem_of_mem_take hx))
     have lk:=(D.lay i (l.take D.aC.toNat)).fW
     refine ⟨lk.bb.trans o.bb,lk.n.trans o.n,by rw [lk.aW];exact o.len,by rw [lk.aW];exact o.byte,?_,?_⟩
     ·unfold Dk.off;split<;>exact a.after
     ·unfold Dk.off;split<;>exact a.aC
    ·rename_i h1
     refine ⟨o1.bb,o1.n,o1.len,o1.byte,?_,a.aC⟩
     have:=a.after
     show 0≤D.after-1∧D.after-1≤_
     omega
   ·exact o1
  ·exact r
 ·exact r
def cQ (a:Option Addr) (n c:Nat):Bool:=Nat.ble n c&&(match a with|some ⟨_,_,some s⟩=>s==1|_=>true)
theorem fH {a:Option Addr} {n c:Nat} (h:cQ a n c=true):n≤c:=by
 unfold cQ at h
 rw [Bool.and_eq_true] at h
 exact Nat.le_of_ble_eq_true h.1
theorem sliceBytes_sub {b off n lo hi:Nat} {s s':Option Nat} {h:ah} {l:List Nat} (e:av (some ⟨b,off,s⟩) n h=some l) (h1:lo≤hi) (h2:hi≤n) :
  av (some ⟨b,off+lo,s'⟩) (hi-lo) h=some ((l.drop lo).take (hi-lo)):=by
 obtain ⟨hl,hb,hat⟩:=aw e
 unfold av
 rw [Option.bind_eq_some_iff]
 refine ⟨((l.drop lo).take (hi-lo)).map u8,?_,bytesOf_map (fun x hx=>hb x (List.mem_of_mem_drop (List.mem_of_mem_take hx)))⟩
 simp only [bW,Nat.mul_one]
 by_cases h0:hi-lo=0
 ·rw [if_pos h0,h0];rfl
 ·rw [if_neg h0]
  obtain ⟨b',off',s'',k,hx,hk,hkl,hk2⟩:=hat (by omega)
  cases hx
  simp only [hk]
  have hcells:(k.drop (off+lo)).take (hi-lo)=((l.drop lo).take (hi-lo)).map u8:=by
   apply List.ext_getElem?
   intro i
   rw [List.getElem?_take,List.getElem?_map,List.getElem?_take,List.getElem?_drop,List.getElem?_drop]
   by_cases hi2:i<hi-lo
   ·rw [if_pos hi2,if_pos hi2,Nat.add_assoc,hk2 (lo+i) (by omega),List.getD_eq_getElem?_getD,List.getElem?_eq_getElem (by omega)]
    rfl
   ·rw [if_neg hi2,if_neg hi2];rfl
  rw [hcells,if_pos ⟨by omega,ic _⟩]
theorem dP {a:Option Addr} {n c lo hi:Nat} {vl vh:Option Value} {h:ah} {l:List Nat} (g:cQ a n c=true) (e:av a n h=some l) (h1:lo≤hi) (h2:hi≤n) (hh:bZ n c vh=some hi) (hl:bZ 0 hi vl=some lo) :
  ∃ a' c',slR 1 (.slice a n c) vl vh none=some (.slice a' (hi-lo) c')∧av a' (hi-lo) h=some ((l.drop lo).take (hi-lo))∧cQ a' (hi-lo) c'=true:=by
 have hn:=fH g
 have hb:dF n c vl vh none=some (lo,hi,c):=by
  unfold dF
  have:bZ c c none=some c:=rfl
  rw [this]
  simp only [hh,hl]
 have hble:Nat.ble (hi-lo) (c-lo)=true:=Nat.ble_eq_true_of_le (by omega)
 cases a with
 |none=>
  have hl0:l = []:=by
   unfold av bW at e
   by_cases hz:n=0
   ·subst hz
    obtain ⟨h3,_⟩:=aw (a:=none) (n:=0) (h:=h) (l:=l) (by unfold av bW;exact e)
    exact List.length_eq_zero_iff.1 h3
   ·simp only [hz,if_false,Option.bind_none] at e;cases e
  have hn0:n=0:=by
   have:=(aw e).1
   rw [hl0] at this;exact this.symm
  subst hn0
  have:hi=0:=by omega
  subst this
  have:lo=0:=by omega
  subst this
  refine ⟨none,c-0,?_,?_,?_⟩
  ·unfold slR fh
   simp only [hb]
  ·subst hl0;rfl
  ·unfold cQ;simp
 |some x=>
  obtain ⟨b,off,s⟩:=x
  cases s with
  |none=>
   refine ⟨some ⟨b,if c=lo then off else off+lo*1,none⟩,c-lo,?_,?_,?_⟩
   ·unfold slR fh
    simp only [hb]
   ·by_cases hc:c=lo
    ·have h3:hi-lo=0:=by omega
     rw [if_pos hc,h3]
     have:(l.drop lo).take 0 = []:=rfl
     rw [this]
     unfold av bW;simp;rfl
    ·rw [if_neg hc,Nat.mul_one]
     exact sliceBytes_sub e h1 h2
   ·unfold cQ;rw [hble];rfl
  |some s=>
   have hs:s=1:=by
    unfold cQ at g
    rw [Bool.and_eq_true] at g
    exact eq_of_beq g.2
   subst hs
   refine ⟨some ⟨b,off+lo*1,some 1⟩,c-lo,?_,?_,?_⟩
   ·unfold slR fh
    simp [hb]
   ·rw [Nat.mul_one];exact sliceBytes_sub e h1 h2
   ·unfold cQ;rw [hble];rfl
noncomputable def s19:List Value→ah→Out
 | [.pointer none,.int .i64 _,.slice _ _ _],h=>some (.int .i64 1,h)
 | [.pointer (some ⟨d,0,none⟩),.int .i64 i,.slice a n c],h=>match dkOf h d,av a n h with
   |some D,some l=>if cQ a n c then some (.int .i64 (D.write i l).1,dh h d (D.write i l).2) else none
   |_,_=>none
 |_,_=>none
theorem s19_at {h:ah} {d:Nat} {D:Dk} (x:bf h d D) (i:Int) {a:Option Addr} {n c:Nat} {l:List Nat} (hl:av a n h=some l) (hg:cQ a n c=true) :
  s19 [ptr d 0,.int .i64 i,.slice a n c] h=some (.int .i64 (D.write i l).1,dh h d (D.write i l).2):=by
 unfold s19 ptr
 simp only [x.of,hl,hg,if_true]
theorem s19_inv {args:List Value} {h h':ah} {v:Value} (e:s19 args h=some (v,h')):(∃ i a n c,args = [.pointer none,.int .i64 i,.slice a n c]∧v = .int .i64 1∧h'=h) ∨
  ∃ d D i a n c l,args = [ptr d 0,.int .i64 i,.slice a n c]∧bf h d D∧av a n h=some l∧cQ a n c=true∧v = .int .i64 (D.write i l).1∧h'=dh h d (D.write i l).2:=by
 unfold s19 at e
 split at e
 ·cases e;exact .inl ⟨_,_,_,_,rfl,rfl,rfl⟩
 ·split at e
  ·split at e
   ·cases e;exact .inr ⟨_,_,_,_,_,_,_,rfl,fK (by assumption),by assumption,by assumption,rfl,rfl⟩
   ·cases e
  ·cases e
 ·cases e
theorem dt {a:Option Addr} {n:Nat} {h h':ah} (e : ∀ x,a=some x→h'.get x.block=h.get x.block):av a n h'=av a n h:=by
 unfold av bW
 cases a with
 |none=>rfl
 |some x=>simp only [e x rfl]
theorem bf.bytes_off {h:ah} {d:Nat} {D:Dk} (x:bf h d D) {a:Option Addr} {n:Nat} {l:List Nat} (e:av a n h=some l) (hn:6<n) : ∀ y,a=some y→y.block≠d:=by
 rintro y rfl rfl
 obtain ⟨_,_,hat⟩:=aw e
 obtain ⟨b,off,s,k,hx,hk,hkl,_⟩:=hat (by omega)
 cases hx
 have h1:h.get b=some D.ie:=x.ie
 rw [hk] at h1
 cases h1
 simp [Dk.ie] at hkl
 omega
theorem s32_at {h:ah} {d:Nat} {D:Dk} (a:bf h d D):s32 [ptr d 0] h=some (.tuple #[],dh h d D.off):=by
 unfold s32 ptr
 simp only [a.of]
theorem arr128 (b off:Nat):eh 128 1 (ptr b off) none none none=some (.slice (some ⟨b,off,none⟩) 128 128):=by
 unfold eh ptr
 have:dF 128 128 none none none=some (0,128,128):=rfl
 simp only [this,Nat.zero_mul,Nat.add_zero,ite_self,Nat.sub_zero]
theorem bin28n (a b:Int):bin Try.prog .neq 28 (.int .i64 a) (.int .i64 b)=some (.bool (a != b)):=bin_neq ..
theorem lay_told {h g:ah} {d:Nat} {D E:Dk} {i:Int} {l:List Nat} (u:Upd h d D E g) (hi:E.fault i=0) (hl:l.length≤128) (hb : ∀ x∈l,x<256) {g':ah} (h0:g'.n0=g.n0) (_hn:g'.next=g.next)
  (hg:g'.get E.bb=some ((cJ E.aW (i.toNat*128) l).map u8)) (ho : ∀ e,e≠E.bb→g'.get e=g.get e) :
  bf g' d (E.lay i l)∧(∀ c,c≠d→c≠D.bb→g'.get c=h.get c):=by
 have o:=Dk.lay_okd u.is hi hl hb
 refine ⟨⟨?_,hg,by rw [o.len];exact u.is.len,o.byte,by rw [h0];exact u.is.dn,by rw [h0];exact u.is.bn,u.is.ne,u.is.small,u.is.after,u.is.aC⟩,?_⟩
 ·rw [ho d u.is.ne];exact u.is.ie
 ·intro c h1 h2
  rw [ho c (by rw [u.like.bb];exact h2)];exact u.get c h1
theorem told_of {h g:ah} {d:Nat} {D E:Dk} (a:bf h d D) (b:bf g d E) (hb:E.bb=D.bb) (ho : ∀ c,c≠d→c≠D.bb→g.get c=h.get c) : ∀ b k,(dh h d E).n0≤b→(dh h d E).get b=some k→g.get b=some k:=by
 intro c k _ hc
 rw [gI a hb] at hc
 split at hc
 ·cases hc;rename_i e;rw [e];exact b.aW
 ·split at hc
  ·cases hc;rename_i e;rw [e];exact b.ie
  ·rename_i e1 e2;rw [ho c e2 (by rw [←hb];exact e1)];exact hc
theorem t19_is (C:al) (H53 : ∀ args h,C 53 args h=s53 args h) (H32 : ∀ args h,C 32 args h=s32 args h) {d:Nat} {D:Dk} {h:ah} (x:bf h d D) (i:Int) {a:Option Addr} {n c:Nat} {l:List Nat} (hl:av a n h=some l) (hgd:cQ a n c=true) :
  ∃ g,t19 C (ptr d 0) (.int .i64 i) (.slice a n c) h=some (.int .i64 (D.write i l).1,g) ∧ ∀ b k,(dh h d (D.write i l).2).n0≤b→(dh h d (D.write i l).2).get b=some k→g.get b=some k:=by
 obtain ⟨hlen,hbyte,_⟩:=aw hl
 unfold t19 Dk.write
 simp -implicitDefEqProofs only [af,H53,s53_at i x,bin28n,aj]
 by_cases hf:D.fault i=0
 ·obtain ⟨hdn,hi1,hi2⟩:=Dk.gD hf
  have hix:cd 128 (.slice (some ⟨D.bb,0,none⟩) D.n D.n) (.int .i64 i)=some (ptr D.bb (i.toNat*128)):=by
   unfold cd
   simp only [hi1,hi2,and_self,if_true,Nat.zero_add]
  have hroom:i.toNat*128+128≤D.aW.length:=by have:=x.len;omega
  simp -implicitDefEqProofs only [hf,bne_self_eq_false,af,bO,aj,bin_neq,if_true,hlen]
  by_cases hn:n=128
  ·subst hn
   simp -implicitDefEqProofs only [Int.cast_ofNat_Int,bne_self_eq_false,af,aJ,aj,ax,Nat.zero_add,x.l2,cC,if_true]
   cases har:D.ca with
   |false=>
    obtain ⟨g,hc,g0,gn,gb,go⟩:=copy_bytes (dl:=128) (dc:=128) (s:=none) (c:=c) x.aW x.bn hl (off:=i.toNat*128) (by simpa using hroom)
    simp -implicitDefEqProofs only [Bool.not_false,af,aJ,aj,ax,Nat.zero_add,x.l0,hix,arr128,hc,Bool.false_eq_true,if_false]
    rw [Nat.min_self,List.take_of_length_le (by omega)] at gb
    obtain ⟨y,yo⟩:=lay_told (.refl x) hf (by omega) hbyte g0 gn gb go
    exact ⟨g,rfl,told_of x y rfl yo⟩
   |true=>
    simp -implicitDefEqProofs only [Bool.not_true,af,aJ,aj,ax,Nat.zero_add,x.l3,eU,if_true]
    by_cases hz:D.after=0
    ·obtain ⟨kn,hk⟩ : ∃ kn:Nat,D.aC=(kn:Int):=⟨D.aC.toNat,by have:=x.aC;omega⟩
     have hk128:kn≤128:=by have:=x.aC;omega
     have hcl:=fH hgd
     obtain ⟨a',c',e1,e2,e3⟩:=dP (vl:=none) (vh:=some (.int .i64 D.aC)) (lo:=0) (hi:=kn) hgd hl (by omega) hk128 (by
      simp only [bZ]
      rw [if_pos (by omega),hk];rfl) rfl
     obtain ⟨g,hc,g0,gn,gb,go⟩:=copy_bytes (dl:=128) (dc:=128) (s:=none) (c:=c') x.aW x.bn e2 (off:=i.toNat*128) (by omega)
     have hkt:D.aC.toNat=kn:=by omega
     rw [Nat.sub_zero,Nat.min_eq_left hk128] at gb hc
     rw [List.drop_zero,List.take_take,Nat.min_self] at gb
     obtain ⟨y,yo⟩:=lay_told (.refl x) hf (l:=l.take kn) (by simp;omega) (fun q hq=>hbyte q (List.mem_of_mem_take hq)) g0 gn gb go
     simp -implicitDefEqProofs only [hz,beq_self_eq_true,af,aJ,aj,ax,Nat.zero_add,x.l0,hix,arr128,x.l4,e1,Nat.sub_zero,hc,if_true]
     have hd2:ba (ptr d 4) h=some (.int .i64 D.aC,h):=x.l4
     simp -implicitDefEqProofs only [H32,s32_at y,af,hkt]
     have hh:=y.put (E:=(D.lay i (l.take kn)).off) ⟨((D.lay i (l.take kn)).fW).bb,((D.lay i (l.take kn)).fW).n,by rw [((D.lay i (l.take kn)).fW).aW],by rw [((D.lay i (l.take kn)).fW).aW];exact y.byte,by unfold Dk.off;split<;>exact x.after,by unfold Dk.off;split<;>exact x.aC⟩
     refine ⟨_,rfl,told_of x hh ((D.lay i (l.take kn)).fW).bb ?_⟩
     intro e h1 h2
     have hbb:=((D.lay i (l.take kn)).fW).bb
     rw [gI y hbb,if_neg (by rw [hbb];exact h2),if_neg h1]
     exact yo e h1 h2
    ·have hz2:(D.after==0)=false:=by simpa using hz
     have hw:IntKind.wrap .i64 (D.after-1)=D.after-1:=bD (by have:=x.after;omega) (by have:=x.after;omega)
     have u1:Upd h d D { D with after:=D.after-1 } _:=(Upd.refl x).step ⟨rfl,rfl,rfl⟩ ⟨by have:=x.after;show 0≤D.after-1;omega,by have:=x.after;show D.after-1≤_;omega⟩ x.aC
     have hl2:av a 128 (h.set d { D with after:=D.after-1 }.ie)=some l:=by
      rw [dt (h:=h) (fun y hy=>ah.bE x.dn x.lt _ (x.bytes_off hl (by omega) y hy))];exact hl
     obtain ⟨g,hc,g0,gn,gb,go⟩:=copy_bytes (dl:=128) (dc:=128) (s:=none) (c:=c) u1.is.aW u1.is.bn hl2 (off:=i.toNat*128) (by simpa using hroom)
     rw [Nat.min_self,List.take_of_length_le (by omega)] at gb
     obtain ⟨y,yo⟩:=lay_told u1 hf (by omega) hbyte g0 gn gb go
     have hc:copyA 1 (.slice (some ⟨D.bb,i.toNat*128,none⟩) 128 128) (.slice a 128 c) (h.set d { D with after:=D.after-1 }.ie)=some (aq (min 128 128),g):=hc
     have l0:ba (ptr d 0) (h.set d { D with after:=D.after-1 }.ie)=some (.slice (some ⟨D.bb,0,none⟩) D.n D.n,h.set d { D with after:=D.after-1 }.ie):=u1.is.l0
     simp -implicitDefEqProofs only [hz2,af,aJ,aj,ax,Nat.zero_add,x.l3,gZ,hw,x.s3,l0,hix,arr128,hz,if_false,hc]
     exact ⟨g,rfl,told_of x y rfl yo⟩
  ·have hn2:((n:Int) != 128)=true:=by
    have:(n:Int)≠128:=by omega
    simpa using this
   simp -implicitDefEqProofs only [hn2,af,hn,if_false]
   exact ⟨h,rfl,fun b k _ hb=>(putDk_self x b k).2 hb⟩
 ·have hf2:(D.fault i != 0)=true:=by simpa using hf
  simp -implicitDefEqProofs only [hf2,af,hf,if_false]
  exact ⟨h,rfl,fun b k _ hb=>(putDk_self x b k).2 hb⟩
end Go.Proofs.Ytcmfgmhadeeieaa

namespace Go.Proofs.Ytcmfgmhadeeieaa
open Go Go.Abs
theorem is19:cA Try.prog 19 Try.f19:=⟨by kernel_rfl,by kernel_rfl,by kernel_rfl,by kernel_rfl⟩
theorem t19_nil (C:al) (H53 : ∀ args h,C 53 args h=s53 args h) (i:Int) (a:Option Addr) (n c:Nat) (h:ah):t19 C (.pointer none) (.int .i64 i) (.slice a n c) h=some (.int .i64 1,h):=by
 unfold t19
 have e:s53 [.pointer none,.int .i64 i] h=some (.int .i64 1,h):=rfl
 simp -implicitDefEqProofs only [af,H53,e,bin28n,aj,show ((1:Int) != 0)=true from rfl]
theorem c19:cq Try.prog 19 s19:=by
 refine onDisk (C:=fe [(53,s53),(32,s32)]) (cD _ ?_) is19 ?_ ?_
 ·intro p hp
  simp only [List.mem_cons,List.not_mem_nil,or_false] at hp
  rcases hp with rfl|rfl
  ·exact c53
  ·exact c32
 ·intro args h v h' e
  rcases s19_inv e with ⟨i,a,n,c,rfl,rfl,rfl⟩|⟨d,D,i,a,n,c,l,rfl,x,hl,hg,rfl,rfl⟩
  ·exact ⟨fun _=>rfl,.inl rfl⟩
  ·exact ⟨fun _=>rfl,.inr ⟨d,D,(D.write i l).2,x,(Dk.write_okd x i (aw hl).2.1).bb,rfl⟩⟩
 ·intro args h v h' e _ _
  rcases s19_inv e with ⟨i,a,n,c,rfl,rfl,rfl⟩|⟨d,D,i,a,n,c,l,rfl,x,hl,hg,rfl,rfl⟩
  ·exact ⟨h',(t19_eq _ _ _ _ _).trans (t19_nil _ (fun _ _=>rfl) _ _ _ _ _),fun _ _ _ h=>h⟩
  ·obtain ⟨g,h1,h2⟩:=t19_is (fe [(53,s53),(32,s32)]) (fun _ _=>rfl) (fun _ _=>rfl) x i (c:=c) hl hg
   exact ⟨g,(t19_eq _ _ _ _ _).trans h1,h2⟩
def Dk.read (D:Dk) (i:Int):List Nat:=(D.aW.drop (i.toNat*128)).take 128
def cT (h:ah) (n:Nat):Value := .slice (some ⟨h.next,0,none⟩) n n
noncomputable def s20:List Value→ah→Out
 | [.pointer none,.int .i64 _],h=>some (.tuple #[.slice none 0 0,.int .i64 1],h)
 | [.pointer (some ⟨d,0,none⟩),.int .i64 i],h=>match dkOf h d with
   |some D=>if D.fault i=0 then some (.tuple #[cT h 128,.int .i64 0],h.alloc ((D.read i).map u8)) else some (.tuple #[.slice none 0 0,.int .i64 (D.fault i)],h)
   |none=>none
 |_,_=>none
theorem s20_at {h:ah} {d:Nat} {D:Dk} (x:bf h d D) (i:Int) (hf:D.fault i=0):s20 [ptr d 0,.int .i64 i] h=some (.tuple #[cT h 128,.int .i64 0],h.alloc ((D.read i).map u8)):=by
 unfold s20 ptr
 simp only [x.of,hf,if_true]
theorem s20_inv {args:List Value} {h h':ah} {v:Value} (e:s20 args h=some (v,h')):(∃ i,args = [.pointer none,.int .i64 i]∧v = .tuple #[.slice none 0 0,.int .i64 1]∧h'=h) ∨
  ∃ d D i,args = [ptr d 0,.int .i64 i]∧bf h d D∧((D.fault i=0∧v = .tuple #[cT h 128,.int .i64 0]∧h'=h.alloc ((D.read i).map u8))∨(D.fault i≠0∧v = .tuple #[.slice none 0 0,.int .i64 (D.fault i)]∧h'=h)):=by
 unfold s20 at e
 split at e
 ·cases e;exact .inl ⟨_,rfl,rfl,rfl⟩
 ·split at e
  ·split at e
   ·cases e;exact .inr ⟨_,_,_,rfl,fK (by assumption),.inl ⟨by assumption,rfl,rfl⟩⟩
   ·cases e;exact .inr ⟨_,_,_,rfl,fK (by assumption),.inr ⟨by assumption,rfl,rfl⟩⟩
  ·cases e
 ·cases e
theorem Dk.read_length {h:ah} {d:Nat} {D:Dk} (x:bf h d D) {i:Int} (hf:D.fault i=0):(D.read i).length=128:=by
 obtain ⟨_,h1,h2⟩:=Dk.gD hf
 have:=x.len
 simp only [Dk.read,List.length_take,List.length_drop]
 omega
theorem Dk.read_byte {h:ah} {d:Nat} {D:Dk} (x:bf h d D) (i:Int) : ∀ y∈D.read i,y<256:=fun y hy=>x.byte y (List.mem_of_mem_drop (List.mem_of_mem_take hy))
theorem stN_all {h:ah} {k k':dW} (hk:k'.length=k.length) (ho:bK k'=true):cf k.length (ptr h.next 0) (.agg k'.toArray) (h.alloc k)=some (undef,(h.alloc k).set h.next k'):=by
 unfold cf ptr
 have hc:(Value.agg k'.toArray).cells=k'.toArray:=rfl
 have hg:(h.alloc k).get h.next=some k:=by rw [ah.aE,if_pos rfl]
 simp only [hc,List.size_toArray,hk,if_true]
 unfold stL
 simp only [hg]
 rw [if_pos (by simp [ho,hk,ah.aH])]
 have:cL k 0 k'=k':=by simp [cL,hk]
 simp [this]
theorem set_new {h:ah} {k k':dW} {b:Nat} {y:dW} (hb:(h.alloc k').get b=some y):((h.alloc k).set h.next k').get b=some y:=by
 rw [ah.aE] at hb
 have hg:(h.alloc k).get h.next=some k:=by rw [ah.aE,if_pos rfl]
 have h0:(h.alloc k).n0≤h.next:=h.aH
 split at hb
 ·rename_i e;subst e
  rw [ah.bI h0 hg];exact hb
 ·rename_i e
  rw [ah.bE h0 (by simp) _ e,ah.aE,if_neg e];exact hb
theorem t20_is (C:al) (H53 : ∀ args h,C 53 args h=s53 args h) {d:Nat} {D:Dk} {h:ah} (x:bf h d D) (i:Int) (hf:D.fault i=0) :
  ∃ k,t20 C (ptr d 0) (.int .i64 i) h=some (.tuple #[cT h 128,.int .i64 0],(h.alloc k).set h.next ((D.read i).map u8)):=by
 obtain ⟨hdn,hi1,hi2⟩:=Dk.gD hf
 have hlen:=Dk.read_length x hf
 have hix:cd 128 (.slice (some ⟨D.bb,0,none⟩) D.n D.n) (.int .i64 i)=some (ptr D.bb (i.toNat*128)):=by
  unfold cd
  simp only [hi1,hi2,and_self,if_true,Nat.zero_add]
 have hld:ch 128 (ptr D.bb (i.toNat*128)) h=some (.agg ((D.read i).map u8).toArray,h):=by
  rw [ldN_at x.aW (by have:=x.len;simp;omega) (noHoles_part _ _ _)]
  simp [Dk.read]
 have hst:=stN_all (h:=h) (k:=List.replicate 128 (.int .u8 0)) (k':=(D.read i).map u8) (by simp [hlen]) (one_u8 _)
 rw [List.length_replicate] at hst
 unfold t20
 simp -implicitDefEqProofs only [af,H53,s53_at i x,bin28n,aj,hf,bne_self_eq_false,aJ,ax,Nat.zero_add,x.l0,hix,hld,dB,Abs.newRow,hst,arr128]
 exact ⟨_,rfl⟩
theorem t20_bad (C:al) (H53 : ∀ args h,C 53 args h=s53 args h) {p:Value} {h:ah} (i n:Int) (hs:s53 [p,.int .i64 i] h=some (.int .i64 n,h)) (hn:n≠0) :
  t20 C p (.int .i64 i) h=some (.tuple #[.slice none 0 0,.int .i64 n],h):=by
 have hf2:(n != 0)=true:=by simpa using hn
 unfold t20
 simp -implicitDefEqProofs only [af,H53,hs,bin28n,aj,hf2]
theorem is20:cA Try.prog 20 Try.f20:=⟨by kernel_rfl,by kernel_rfl,by kernel_rfl,by kernel_rfl⟩
theorem c20:cq Try.prog 20 s20:=by
 refine .mk' (C:=fe [(53,s53)]) (cD _ ?_) mixed is20 ?_ ?_
 ·intro p hp
  simp only [List.mem_cons,List.not_mem_nil,or_false] at hp
  rcases hp with rfl
  exact c53
 ·intro args h v h' e
  rcases s20_inv e with ⟨i,rfl,rfl,rfl⟩|⟨d,D,i,rfl,x,⟨hf,rfl,rfl⟩|⟨hf,rfl,rfl⟩⟩
  ·exact ⟨cR.refl _,fun _ h=>⟨rfl,h⟩⟩
  ·exact ⟨cR.alloc _ _,fun _ h=>⟨by simp [cT,dm,ek],h.alloc (bd_u8 _ _)⟩⟩
  ·exact ⟨cR.refl _,fun _ h=>⟨rfl,h⟩⟩
 ·intro args h v h' e _ hh
  rcases s20_inv e with ⟨i,rfl,rfl,rfl⟩|⟨d,D,i,rfl,x,⟨hf,rfl,rfl⟩|⟨hf,rfl,rfl⟩⟩
  ·exact ⟨_,h',id,(t20_eq _ _ _ _).trans (t20_bad _ (fun _ _=>rfl) i 1 rfl (by decide)),.none rfl hh (fun _ _ _ h=>h)⟩
  ·obtain ⟨k,h1⟩:=t20_is (fe [(53,s53)]) (fun _ _=>rfl) x i hf
   refine ⟨_,_,id,(t20_eq _ _ _ _).trans h1,.sub (by simp [cT,dm,ek]) (hh.alloc (bd_u8 _ _)) ?_⟩
   intro b k' _ hb
   exact set_new hb
  ·exact ⟨_,h',id,(t20_eq _ _ _ _).trans (t20_bad _ (fun _ _=>rfl) i _ (s53_at i x) hf),.none rfl hh (fun _ _ _ h=>h)⟩
def Dk.new (h:ah) (n:Nat):Dk:={ bb:=h.next,n:=n,aW:=List.replicate (128*n) 0,down:=false,ca:=false,after:=0,aC:=0,aU:=0 }
def gR (h:ah) (n:Nat):ah:=(h.alloc ((Dk.new h n).aW.map u8)).alloc (Dk.new h n).ie
noncomputable def s18:List Value→ah→Out
 | [.int .i64 n],h=>if 4≤n∧n≤4096 then some (.tuple #[ptr (h.next+1) 0,.int .i64 0],gR h n.toNat) else some (.tuple #[.pointer none,.int .i64 2],h)
 |_,_=>none
theorem s18_at {h:ah} {n:Int} (hn:4≤n∧n≤4096):s18 [.int .i64 n] h=some (.tuple #[ptr (h.next+1) 0,.int .i64 0],gR h n.toNat):=by
 unfold s18
 simp only [hn,and_self,if_true]
theorem new_is (h:ah) {n:Nat} (hn:n≤4096):bf (gR h n) (h.next+1) (Dk.new h n):=by
 have hn0:=h.aH
 refine ⟨?_,?_,by simp [Dk.new],?_,?_,?_,?_,hn,by simp [Dk.new],by simp [Dk.new]⟩
 ·unfold gR;rw [ah.aE,if_pos (by simp)]
 ·unfold gR
  rw [ah.aE,if_neg (by simp [Dk.new]),ah.aE,show (Dk.new h n).bb=h.next from rfl,if_pos rfl]
 ·intro y hy
  rw [show (Dk.new h n).aW=List.replicate (128*n) 0 from rfl] at hy
  rw [List.eq_of_mem_replicate hy];decide
 ·show h.n0≤h.next+1;omega
 ·show h.n0≤h.next;omega
 ·show h.next+1≠h.next;omega
theorem new_kept (h:ah) (n:Nat) (B:Nat→Prop):Kept h (gR h n) B:=(Kept.alloc h _ B).trans (Kept.alloc _ _ B)
theorem zeros128 (n:Nat):fl (List.replicate 128 (.int .u8 0)) n=(List.replicate (128*n) 0).map u8:=by
 unfold fl
 rw [List.map_replicate]
 induction n with
 |zero=>rfl
 |succ n ih=>
  rw [List.range_succ,List.flatMap_append,ih]
  simp only [List.flatMap_cons,List.flatMap_nil,List.append_nil,u8]
  rw [show ((0:Nat):Int)=0 from rfl,List.replicate_append_replicate]
  congr 1
theorem mk128 {h:ah} {n:Nat} (hn:n≤4096) :
  mkR 128 128 (.agg (List.replicate 128 (Value.int .u8 0)).toArray) (aq n) (aq n) h=some (cT h n,h.alloc ((List.replicate (128*n) 0).map u8)):=by
 have hc:(Value.agg (List.replicate 128 (Value.int .u8 0)).toArray).cells=(List.replicate 128 (Value.int .u8 0)).toArray:=rfl
 unfold mkR
 simp only [hc]
 rw [if_pos (by
  simp only [Bool.and_eq_true,decide_eq_true_eq,beq_iff_eq]
  refine ⟨⟨⟨⟨⟨⟨by omega,Int.le_refl _⟩,by omega⟩,by omega⟩,by simp [cV,flat]⟩,by simp⟩,by decide⟩)]
 rw [Int.toNat_natCast,zeros128]
 rfl
end Go.Proofs.Ytcmfgmhadeeieaa

namespace Go.Proofs.Ytcmfgmhadeeieaa
open Go Go.Abs
theorem t18_is (C:al) {h:ah} {n:Nat} (h4:4≤n) (hn:n≤4096):t18 C (aq n) h=some (.tuple #[ptr (h.next+1) 0,.int .i64 0],gR h n):=by
 have e1 : ¬((n:Int)<4):=by omega
 have e2 : ¬((n:Int)>4096):=by omega
 have e3:fU [(.slice none 0 0),(.bool false),(.bool false),(.int .i64 0),(.int .i64 0),(.int .i64 0)] [(0,1,cT h n)]=some (.agg (Dk.new h n).ie.toArray):=rfl
 have e4:box (.agg (Dk.new h n).ie.toArray) (h.alloc ((List.replicate (128*n) 0).map u8))=some (ptr (h.next+1) 0,gR h n):=rfl
 unfold t18
 simp -implicitDefEqProofs only [af,bT,aj,e1,decide_false,ay,beq_self_eq_true,aA,dM,e2,Bool.false_eq_true,if_false,mk128 hn,e3,e4]
theorem t18_bad (C:al) {h:ah} {n:Int} (hn : ¬(4≤n∧n≤4096)):t18 C (.int .i64 n) h=some (.tuple #[.pointer none,.int .i64 2],h):=by
 unfold t18
 simp -implicitDefEqProofs only [af,bT,aj]
 by_cases h1:n<4
 ·simp -implicitDefEqProofs only [h1,decide_true,ay,sf,aF,af,if_true]
 ·have h2:n>4096:=by omega
  simp -implicitDefEqProofs only [h1,decide_false,ay,beq_self_eq_true,aA,af,aj,dM,h2,decide_true,Bool.false_eq_true,if_false]
theorem is18:cA Try.prog 18 Try.f18:=⟨by kernel_rfl,by kernel_rfl,by kernel_rfl,by kernel_rfl⟩
theorem s18_inv {args:List Value} {h h':ah} {v:Value} (e:s18 args h=some (v,h')) : ∃ n:Int,args = [.int .i64 n]∧(((4≤n∧n≤4096)∧v = .tuple #[ptr (h.next+1) 0,.int .i64 0]∧h'=gR h n.toNat)∨(¬(4≤n∧n≤4096)∧v = .tuple #[.pointer none,.int .i64 2]∧h'=h)):=by
 unfold s18 at e
 split at e
 ·split at e
  ·cases e;exact ⟨_,rfl,.inl ⟨by assumption,rfl,rfl⟩⟩
  ·cases e;exact ⟨_,rfl,.inr ⟨by assumption,rfl,rfl⟩⟩
 ·cases e
theorem newDk_bd {h:ah} (hh:bq h) (n:Nat):bq (gR h n):=(hh.alloc (bd_u8 _ _)).alloc (bd_hdr (D:=Dk.new h n) (by simp [Dk.new];omega))
theorem c18:cq Try.prog 18 s18:=by
 refine .mk' (C:=fe []) (cD [] (by simp)) mixed is18 ?_ ?_
 ·intro args h v h' e
  obtain ⟨n,rfl,⟨hn,rfl,rfl⟩|⟨hn,rfl,rfl⟩⟩:=s18_inv e
  ·exact ⟨(cR.alloc _ _).trans (cR.alloc _ _),fun _ h=>⟨by simp [gR,dm,ek,ptr],newDk_bd h _⟩⟩
  ·exact ⟨cR.refl _,fun _ h=>⟨rfl,h⟩⟩
 ·intro args h v h' e _ hh
  obtain ⟨n,rfl,⟨hn,rfl,rfl⟩|⟨hn,rfl,rfl⟩⟩:=s18_inv e
  ·obtain ⟨m,rfl⟩ : ∃ m:Nat,n=m:=⟨n.toNat,by omega⟩
   exact ⟨_,_,id,(t18_eq _ _ _).trans (t18_is _ (by omega) (by omega)),.sub (by simp [gR,dm,ek,ptr]) (newDk_bd hh _) (fun b k _ hb=>hb)⟩
  ·exact ⟨_,_,id,(t18_eq _ _ _).trans (t18_bad _ hn),.none rfl hh (fun _ _ _ h=>h)⟩
theorem append_bytes {h:ah} {b off len cap n c:Nat} {s:Option Nat} {a:Option Addr} {aW l:List Nat} (hb:h.get b=some (aW.map u8)) (h0:h.n0≤b) (hs:av a n h=some l)
  (hroom:len+n≤cap) (hlen:off+len+n≤aW.length) (hcap:cap≤140737488355328) :
  ∃ g,bo 1 1 (.slice (some ⟨b,off,s⟩) len cap) (.slice a n c) h=some (.slice (some ⟨b,off,s⟩) (len+n) cap,g)∧g.n0=h.n0∧g.next=h.next∧g.get b=some ((cJ aW (off+len) l).map u8)∧(∀ e,e≠b→g.get e=h.get e):=by
 have hl:=(aw hs).1
 have hf:=firstA_of hs (Nat.le_refl n) (c:=c)
 rw [List.take_of_length_le (by omega)] at hf
 unfold bo
 simp only [lenA]
 rw [hf]
 simp only [one_u8,Bool.not_true,Bool.false_or]
 rw [if_neg (by
  simp only [List.length_map,Bool.or_eq_true,Bool.not_eq_true',decide_eq_false_iff_not,decide_eq_true_eq,not_or,Nat.not_le]
  exact ⟨⟨by omega,by omega⟩,by omega⟩),if_pos hroom]
 by_cases h1:n=0
 ·subst h1
  have:l = []:=List.length_eq_zero_iff.1 hl
  subst this
  rw [if_pos rfl]
  exact ⟨h,rfl,rfl,rfl,by rw [hb];simp [cJ],fun _ _=>rfl⟩
 ·rw [if_neg h1]
  refine ⟨h.set b ((cJ aW (off+len) l).map u8),?_,rfl,rfl,ah.bI h0 hb _,fun e he=>ah.bE h0 (h.aR hb) _ he⟩
  unfold stL
  simp only [hb]
  rw [if_pos (by simp only [one_u8,List.length_map,Bool.and_true,Bool.and_eq_true,decide_eq_true_eq];exact ⟨h0,by omega⟩),Nat.mul_one,spliceN_map]
  rfl
theorem zeros1 (n:Nat):fl [.int .u8 0] n=(List.replicate n 0).map u8:=by
 unfold fl
 rw [List.map_replicate]
 induction n with
 |zero=>rfl
 |succ n ih=>rw [List.range_succ,List.flatMap_append,ih,List.replicate_succ'];rfl
theorem mk1 {h:ah} {n c:Nat} (hn:n≤c) (hc:c≤281474976710656) :
  mkR 1 1 (.int .u8 0) (aq n) (aq c) h=some (.slice (some ⟨h.next,0,none⟩) n c,h.alloc ((List.replicate c 0).map u8)):=by
 have e:(Value.int .u8 0).cells = #[.int .u8 0]:=rfl
 unfold mkR
 simp only [e]
 rw [if_pos (by
  simp only [Bool.and_eq_true,decide_eq_true_eq,beq_iff_eq]
  refine ⟨⟨⟨⟨⟨⟨by omega,by omega⟩,by omega⟩,by omega⟩,rfl⟩,rfl⟩,by decide⟩)]
 rw [Int.toNat_natCast,Int.toNat_natCast,zeros1]
noncomputable def s25:List Value→ah→Out
 | [.pointer none],h=>some (.slice none 0 0,h)
 | [.pointer (some ⟨d,0,none⟩)],h=>match dkOf h d with
   |some D=>some (cT h (128*D.n),h.alloc (D.aW.map u8))
   |none=>none
 |_,_=>none
theorem s25_at {h:ah} {d:Nat} {D:Dk} (x:bf h d D):s25 [ptr d 0] h=some (cT h (128*D.n),h.alloc (D.aW.map u8)):=by
 unfold s25 ptr
 simp only [x.of]
theorem t25_nil (C:al) (h:ah):t25 C (.pointer none) h=some (.slice none 0 0,h):=by
 unfold t25
 simp -implicitDefEqProofs only [af,nil27e',aj]
theorem blockBytes {h:ah} {d:Nat} {D:Dk} (x:bf h d D) {i:Nat} (hi:i<D.n):av (some ⟨D.bb,i*128,none⟩) 128 h=some ((D.aW.drop (i*128)).take 128):=by
 unfold av
 rw [Option.bind_eq_some_iff]
 refine ⟨((D.aW.drop (i*128)).take 128).map u8,?_,bytesOf_map (fun y hy=>x.byte y (List.mem_of_mem_drop (List.mem_of_mem_take hy)))⟩
 simp only [bW,x.aW]
 rw [if_neg (by decide),if_pos ⟨by have:=x.len;simp;omega,noHoles_part _ _ _⟩]
 simp
theorem t25_is (C:al) {d:Nat} {D:Dk} {h:ah} (x:bf h d D) : ∃ g,t25 C (ptr d 0) h=some (cT h (128*D.n),g) ∧ ∀ b k,(h.alloc (D.aW.map u8)).get b=some k→g.get b=some k:=by
 have hw:IntKind.wrap .i64 ((D.n:Int)*128)=((128*D.n:Nat):Int):=by
  rw [bD (by omega) (by have:=x.small;omega)]
  omega
 have hmk:=mk1 (h:=h) (n:=0) (c:=128*D.n) (by omega) (by have:=x.small;omega)
 have x0:bf (h.alloc ((List.replicate (128*D.n) 0).map u8)) d D:=x.mono rfl (by rw [ah.aE,if_neg (by have:=x.lt;omega)]) (by rw [ah.aE,if_neg (by have:=x.blt;omega)])
 have hg0:(h.alloc ((List.replicate (128*D.n) 0).map u8)).get h.next=some ((List.replicate (128*D.n) 0).map u8):=by rw [ah.aE,if_pos rfl]
 unfold t25
 simp -implicitDefEqProofs only [af,nil27e,aj,aJ,ax,Nat.zero_add,x.l0,bO,bin_mul,hw]
 rw [show (Value.int .i64 0)=aq 0 from rfl,hmk]
 simp -implicitDefEqProofs only [af,aj,aJ,ax,Nat.zero_add,x0.l0,bO]
 obtain ⟨ex,y,g,h1,rfl,r3,rg,rk⟩:=loop_inv (t25l25_111010_eq C)
  (Inv:=fun k y g=>k≤D.n∧y 0=ptr d 0∧y 3 = .slice (some ⟨h.next,0,none⟩) (128*(D.n-k)) (128*D.n)∧y 18=aq D.n∧y 19=aq (D.n-k) ∧
   g.get h.next=some ((D.aW.take (128*(D.n-k))++List.replicate (128*k) 0).map u8)∧g.n0=h.n0∧g.next=h.next+1 ∧ ∀ c,c≠h.next→g.get c=h.get c)
  (fin:=fun ex y g=>ex = .exit 0∧y 3=cT h (128*D.n)∧g.get h.next=some (D.aW.map u8) ∧ ∀ c,c≠h.next→g.get c=h.get c)
  (by
   rintro k y g ⟨hk,i0,i3,i18,i19,ig,in0,inx,io⟩
   have hlen:=x.len
   have hsm:=x.small
   have xg:bf g d D:=x.mono in0 (io d (by have:=x.lt;omega)) (io D.bb (by have:=x.blt;omega))
   unfold t25l25_111010
   simp -implicitDefEqProofs only [i18,i19,bT,aj,af]
   by_cases hz:k=0
   ·subst hz
    simp -implicitDefEqProofs only [Nat.sub_zero,Int.lt_irrefl,decide_false]
    refine ⟨_,_,_,rfl,.inr ⟨by simp,rfl,?_,?_,io⟩⟩
    ·simp only [aM,aV,Nat.reduceEqDiff,if_false,i3,Nat.sub_zero];rfl
    ·rw [ig,Nat.sub_zero,List.take_of_length_le (by omega)];simp
   ·have hlt:((D.n-k:Nat):Int)<(D.n:Int):=by omega
    have hix:cd 128 (.slice (some ⟨D.bb,0,none⟩) D.n D.n) (aq (D.n-k))=some (ptr D.bb ((D.n-k)*128)):=by
     unfold cd
     simp only [aq]
     rw [if_pos (by omega),Int.toNat_natCast,Nat.zero_add]
    obtain ⟨g',ha,q1,q2,q3,q4⟩:=append_bytes (b:=h.next) (off:=0) (len:=128*(D.n-k)) (cap:=128*D.n) (s:=none) (c:=128) ig (by rw [in0];exact h.aH) (blockBytes xg (i:=D.n-k) (by omega))
     (by omega) (by simp;omega) (by omega)
    simp -implicitDefEqProofs only [decide_eq_true hlt,af,i3,i0,aJ,aj,ax,Nat.zero_add,xg.l0,hix,arr128,ha,dL]
    refine ⟨_,_,_,rfl,.inl ⟨rfl,k-1,by omega,by omega,?_⟩⟩
    have e1:D.n-(k-1)=D.n-k+1:=by omega
    simp only [aM,aV,Nat.reduceEqDiff,if_false,if_true,i0,i18,true_and,e1]
    refine ⟨by rw [Nat.mul_add],?_,?_,q1.trans in0,q2.trans inx,fun c hc=>(q4 c hc).trans (io c hc)⟩
    ·rw [bD (by omega) (by omega)];rfl
    ·rw [q3]
     refine congrArg (fun q=>some (List.map u8 q)) ?_
     have m1:(D.aW.take (128*(D.n-k))).length=128*(D.n-k):=by simp;omega
     have m2:((D.aW.drop ((D.n-k)*128)).take 128).length=128:=by simp;omega
     unfold cJ
     rw [Nat.zero_add,m2,List.take_left' m1,List.drop_append,m1]
     have m3:List.drop (128*(D.n-k)+128) (List.take (128*(D.n-k)) D.aW) = []:=List.drop_eq_nil_of_le (by rw [m1];omega)
     have m4:128*k-(128*(D.n-k)+128-128*(D.n-k))=128*(k-1):=by omega
     have m5:128*(D.n-k+1)=128*(D.n-k)+128:=by omega
     rw [m3,List.nil_append,List.drop_replicate,m4,m5,List.take_add,Nat.mul_comm 128 (D.n-k)])
  (k:=D.n) (by have:rounds=18446744073709551616:=rfl;have:=x.small;omega)
  (x:=up (bs [ptr d 0]) [(2,.slice none 0 0),(3,.slice (some ⟨h.next,0,none⟩) 0 (128*D.n)),(5,ptr d 0),(6,.bool false),(7,ptr d 0),(8,ptr d 0),(9,ptr d 0),(10,.slice (some ⟨D.bb,0,none⟩) D.n D.n),(11,aq D.n),(12,aq (128*D.n)),(13,.slice (some ⟨h.next,0,none⟩) 0 (128*D.n)),(14,ptr d 0),(15,ptr d 0),(16,ptr d 0),(17,.slice (some ⟨D.bb,0,none⟩) D.n D.n),(18,aq D.n),(19,aq 0)])
  (h:=h.alloc ((List.replicate (128*D.n) 0).map u8))
  ⟨Nat.le_refl _,rfl,by rw [Nat.sub_self];rfl,rfl,by rw [Nat.sub_self];rfl,by rw [Nat.sub_self,hg0];simp,rfl,rfl,fun c hc=>by rw [ah.aE,if_neg hc]⟩
 rw [h1]
 simp -implicitDefEqProofs only [bA,b25_7,if_true,t25k25_5_eq]
 unfold t25k25_5
 simp -implicitDefEqProofs only [r3,af]
 refine ⟨g,rfl,?_⟩
 intro b k hb
 rw [ah.aE] at hb
 split at hb
 ·rename_i e;subst e;rw [rg];exact hb
 ·rw [rk b (by assumption)];exact hb
theorem is25:cA Try.prog 25 Try.f25:=⟨by kernel_rfl,by kernel_rfl,by kernel_rfl,by kernel_rfl⟩
theorem c25:cq Try.prog 25 s25:=by
 have key : ∀ args h v h',s25 args h=some (v,h')→(args = [.pointer none]∧v = .slice none 0 0∧h'=h) ∨ ∃ d D,args = [ptr d 0]∧bf h d D∧v=cT h (128*D.n)∧h'=h.alloc (D.aW.map u8):=by
  intro args h v h' e
  unfold s25 at e
  split at e
  ·cases e;exact .inl ⟨rfl,rfl,rfl⟩
  ·split at e
   ·cases e;exact .inr ⟨_,_,rfl,fK (by assumption),rfl,rfl⟩
   ·cases e
  ·cases e
 refine .mk' (C:=fe []) (cD [] (by simp)) mixed is25 ?_ ?_
 ·intro args h v h' e
  rcases key _ _ _ _ e with ⟨rfl,rfl,rfl⟩|⟨d,D,rfl,x,rfl,rfl⟩
  ·exact ⟨cR.refl _,fun _ h=>⟨rfl,h⟩⟩
  ·exact ⟨cR.alloc _ _,fun _ h=>⟨by simp [cT,dm],h.alloc (bd_u8 _ _)⟩⟩
 ·intro args h v h' e _ hh
  rcases key _ _ _ _ e with ⟨rfl,rfl,rfl⟩|⟨d,D,rfl,x,rfl,rfl⟩
  ·exact ⟨_,_,id,(t25_eq _ _ _).trans (t25_nil _ _),.none rfl hh (fun _ _ _ h=>h)⟩
  ·obtain ⟨g,h1,h2⟩:=t25_is (fe []) x
   exact ⟨_,g,id,(t25_eq _ _ _).trans h1,.sub (by simp [cT,dm]) (hh.alloc (bd_u8 _ _)) (fun b k _ hb=>h2 b k hb)⟩
end Go.Proofs.Ytcmfgmhadeeieaa

namespace Go.Proofs.Ytcmfgmhadeeieaa
open Go Go.Abs
def strOf (l:List Nat):ByteArray:=⟨(l.map UInt8.ofNat).toArray⟩
theorem mapM_asByte : ∀ {l:List Nat},(l.map u8).mapM asByte=some (l.map UInt8.ofNat)
 | []=>rfl
 |n::l=>by
  have ih:=mapM_asByte (l:=l)
  rw [List.map_cons,List.mapM_cons,ih]
  rfl
theorem iO {a:Option Addr} {n c:Nat} {h:ah} {l:List Nat} (e:av a n h=some l):cvBS (.slice a n c) h=some (.string (strOf l),h):=by
 have hl:=(aw e).1
 have hf:=firstA_of e (Nat.le_refl n) (c:=c)
 rw [List.take_of_length_le (by omega)] at hf
 unfold cvBS bsR
 simp only [hf,mapM_asByte]
 rfl
theorem bin_str_neq (t:TypeId) (a b:ByteArray):bin Try.prog .neq t (.string a) (.string b)=some (.bool (!(a.toList==b.toList))):=by
 unfold bin binA
 rfl
theorem st_byte {h:ah} {b o:Nat} {l:List Nat} {v:Nat} (hg:h.get b=some (l.map u8)) (ho:o<l.length) (hn:h.n0≤b):cf 1 (ptr b o) (u8 v) h=some (undef,h.set b ((l.set o v).map u8)):=by
 rw [dy hg (by simpa using ho) hn rfl rfl,List.map_set]
theorem c9 {h:ah} {b off n:Nat} {s:Option Nat} {l:List Nat} (hg:h.get b=some (l.map u8)) (hl:off+n≤l.length) (hb : ∀ x∈l,x<256):av (some ⟨b,off,s⟩) n h=some ((l.drop off).take n):=by
 unfold av
 rw [Option.bind_eq_some_iff]
 refine ⟨((l.drop off).take n).map u8,?_,bytesOf_map (fun y hy=>hb y (List.mem_of_mem_drop (List.mem_of_mem_take hy)))⟩
 simp only [bW,hg,Nat.mul_one]
 by_cases h0:n=0
 ·rw [if_pos h0,h0];rfl
 ·rw [if_neg h0,if_pos ⟨by simpa using hl,noHoles_part _ _ _⟩]
  simp
end Go.Proofs.Ytcmfgmhadeeieaa

namespace Go.Proofs.Ytcmfgmhadeeieaa
open Go Go.Abs
def partB (f:Nat→Nat) (m:Nat):List Nat:=(List.range 128).map fun j=>if j<m then f j else 0
section
variable (C:al)
end
end Go.Proofs.Ytcmfgmhadeeieaa

namespace Go.Proofs.Ytcmfgmhadeeieaa
open Go Go.Abs
theorem bin4n (a b:Bool):bin Try.prog .neq 4 (.bool a) (.bool b)=some (.bool (a != b)):=by
 cases a<;>cases b<;>kernel_rfl
theorem bin28e (a b:Int):bin Try.prog .eql 28 (.int .i64 a) (.int .i64 b)=some (.bool (a==b)):=eU ..
def fb (i:Nat):List Nat:=partB (fun j=>(i+j+1)%256) 128
section
variable (C:al) (H19 : ∀ args h,C 19 args h=s19 args h)
include H19
end
end Go.Proofs.Ytcmfgmhadeeieaa

namespace Go.Proofs.Ytcmfgmhadeeieaa
open Go Go.Abs
section
variable (C:al) (H14 : ∀ args h,C 14 args h=s14 args h) (H18 : ∀ args h,C 18 args h=s18 args h) (H48 : ∀ args h,C 48 args h=s48 args h) (H19 : ∀ args h,C 19 args h=s19 args h)
 (H20 : ∀ args h,C 20 args h=s20 args h) (H36 : ∀ args h,C 36 args h=s36 args h) (H25 : ∀ args h,C 25 args h=s25 args h) (H33 : ∀ args h,C 33 args h=s33 args h)
include H19
include H14 H20 H36 H25 H33
include H18 H48
end
end Go.Proofs.Ytcmfgmhadeeieaa

namespace Go.Proofs.Ytcmfgmhadeeieaa
open Go Go.Abs
open Go.ChangeShapes Go.WideShapes Go.ChangeAt Go.RowKit
def goodZ (a:Option Addr) (n c:Nat):Prop:=cQ a n c=true∨(n=0∧c=0 ∧ ∀ y,a=some y→y.spot=some 0)
theorem goodZ_spot {a:Addr} {n c:Nat} (h:n≤c) (hs:a.spot=none∨(c=0∧a.spot=some 0)):goodZ (some a) n c:=by
 rcases hs with hs|⟨rfl,hs⟩
 ·left
  obtain ⟨b,off,s⟩:=a
  have hs:s=none:=hs
  subst hs
  unfold cQ
  rw [Nat.ble_eq_true_of_le h];rfl
 ·exact .inr ⟨by omega,rfl,fun y hy=>by cases hy;exact hs⟩
def BytesV (h:ah) (v:Value) (l:List Nat):Prop := ∃ a n c,v = .slice a n c∧av a n h=some l∧n≤maxLen∧goodZ a n c
def fx (h:ah) (v:Value) (ls:List (List Nat)):Prop:=
 ∃ a n c,v = .slice a n c∧ls.length=n∧n≤maxLen ∧ ∀ i,i<n → ∃ b off s k rv,a=some ⟨b,off,s⟩∧h.get b=some k∧k[off+i]? = some rv∧isHole rv=false∧BytesV h rv (ls.getD i [])
structure OpD where
 kind:Int
 A:Int
 B:Int
 mask:Nat
 data:List Nat
 aT:List (List Nat)
structure OpV (h:ah) (k:dW) (o:Nat) (op:OpD):Prop where
 kind:k[o]? = some (.int .i64 op.kind)
 A:k[o+1]? = some (.int .i64 op.A)
 B:k[o+2]? = some (.int .i64 op.B)
 mask:k[o+3]? = some (u8 op.mask)
 data : ∃ v,k[o+4]? = some v∧isHole v=false∧BytesV h v op.data
 aT : ∃ v,k[o+5]? = some v∧isHole v=false∧fx h v op.aT
 wf:eS op.kind=true∧eS op.A=true∧eS op.B=true∧op.mask<256
def iC (h:ah) (v:Value) (ops:List OpD):Prop:=
 ∃ a n c,v = .slice a n c∧ops.length=n∧n≤maxLen ∧ ∀ i,i<n → ∃ b off s k,a=some ⟨b,off,s⟩∧h.get b=some k ∧ ∃ op,ops[i]? = some op∧OpV h k (off+i*6) op
section
variable {H:Type} {enc:TypeId×Value→H} {W:World} {base:Nat} {held:Bool}
theorem cells32:Try.prog.cellsOf 5=1:=by kernel_rfl
theorem cells31:Try.prog.cellsOf 32=1:=by kernel_rfl
theorem cells3:Try.prog.cellsOf 3=1:=by kernel_rfl
theorem cells31':Try.prog.cellsOf 31=1:=by kernel_rfl
theorem u8_lit {n:Int} (h:(Lit.int .u8 n).wf=true) : ∃ m:Nat,n=m∧m<256:=by
 simp [Lit.wf,IntKind.min,IntKind.max,IntKind.signed,IntKind.bits] at h
 exact ⟨n.toNat,by omega,by omega⟩
theorem i64_lit {n:Int} (h:(Lit.int .i64 n).wf=true):eS n=true:=by
 simp only [eS,Bool.and_eq_true,decide_eq_true_eq]
 simpa [Lit.wf,IntKind.min,IntKind.max,IntKind.signed,IntKind.bits] using h
theorem clean_flat {n:Nat} {v:Value} (h:nice n v=true):clean n v=v:=by unfold clean;rw [if_pos h]
theorem clean_slice {a:Addr} {len cap:Nat} (hlc:len≤cap) (hc:0<cap→a.spot=none∧a.block<W.heap.size) :
  isHole (clean W.heap.size (.slice (some a) len cap))=false ∧ ∃ a' ,clean W.heap.size (.slice (some a) len cap) = .slice (some a') len cap∧(0<cap→a'=a)∧(a'.spot=none∨(cap=0∧a'.spot=some 0)):=by
 obtain ⟨b,off,s⟩:=a
 by_cases h0:0<cap
 ·obtain ⟨h1,h2⟩:=hc h0
  have h1':s=none:=h1
  have h2':b<W.heap.size:=h2
  subst h1'
  have hn:nice W.heap.size (.slice (some ⟨b,off,none⟩) len cap)=true:=by simpa [nice] using h2'
  rw [clean_flat hn]
  exact ⟨rfl,_,rfl,fun _=>rfl,.inl rfl⟩
 ·obtain rfl:cap=0:=by omega
  obtain rfl:len=0:=by omega
  by_cases hn:nice W.heap.size (.slice (some ⟨b,off,s⟩) 0 0)=true
  ·rw [clean_flat hn]
   refine ⟨rfl,_,rfl,fun h=>absurd h h0,.inl ?_⟩
   cases s with
   |none=>rfl
   |some s=>simp [nice,flat] at hn
  ·have:clean W.heap.size (.slice (some ⟨b,off,s⟩) 0 0) = .slice (some ⟨0,0,some 0⟩) 0 0:=by unfold clean;rw [if_neg hn];rfl
   rw [this]
   exact ⟨rfl,_,rfl,fun h=>absurd h h0,.inr ⟨rfl,rfl⟩⟩
theorem bytes_of_cells {h:ah} {b off len:Nat} {s:Option Nat} {k:dW} {l:List Nat} (hk:h.get b=some k) (hlen:l.length=len) (hb : ∀ x∈l,x<256) (hc : ∀ i,i<len→k[off+i]? = some (u8 (l.getD i 0))) :
  av (some ⟨b,off,s⟩) len h=some l:=by
 unfold av
 rw [Option.bind_eq_some_iff]
 refine ⟨l.map u8,?_,bytesOf_map hb⟩
 simp only [bW,hk,Nat.mul_one]
 by_cases h0:len=0
 ·subst h0
  have:l = []:=List.length_eq_zero_iff.1 hlen
  subst this;rfl
 ·have hcells:(k.drop off).take len=l.map u8:=by
   apply List.ext_getElem?
   intro i
   rw [List.getElem?_take,List.getElem?_drop,List.getElem?_map]
   by_cases hi:i<len
   ·rw [if_pos hi,hc i hi,List.getD_eq_getElem?_getD,List.getElem?_eq_getElem (by omega)]
    rfl
   ·rw [if_neg hi,List.getElem?_eq_none (by omega)];rfl
  have hl2:off+len≤k.length:=by
   have:=hc (len-1) (by omega)
   have:=(List.getElem?_eq_some_iff.1 this).1
   omega
  rw [if_neg h0,if_pos ⟨hl2,by rw [hcells];exact ic _⟩,hcells]
theorem trod_bytes {fuel:Nat} {v:Value} {x:DataW H×List MemPlace} (h:DataW.trod enc Try.prog W base (fun _=>true) held fuel 32 [v]=some x) :
  isHole (clean W.heap.size v)=false ∧ ∃ l,BytesV (fD W (view W)) (clean W.heap.size v) l:=by
 rcases open_ints Try.underlying32 Try.underlying5 cells32 h with ⟨h1,_⟩|⟨a,len,cap,zs,h1,_,hlc,hcm,hzl,_,hcell,hwf⟩
 ·cases h1
  exact ⟨rfl,[],none,0,0,rfl,rfl,Nat.zero_le _,.inl rfl⟩
 ·cases h1
  simp only [if_true] at hzl
  have hpos:0<cap→a.spot=none∧a.block<W.heap.size:=by
   intro h0
   obtain ⟨e1,e2,_⟩:=view_cell (hcell 0 (by omega))
   exact ⟨e1,e2⟩
  obtain ⟨g1,a',g2,g3,g4⟩:=clean_slice (W:=W) hlc hpos
  refine ⟨g1,((zs.take len).map Int.toNat),a',len,cap,g2,?_,by omega,goodZ_spot hlc g4⟩
  by_cases h0:0<cap
  ·have ha:=g3 h0
   subst ha
   obtain ⟨b,off,s⟩:=a'
   obtain ⟨e1,_⟩:=hpos h0
   have e1':s=none:=e1
   subst e1'
   have get : ∀ i,i<cap → ∃ k,view W b=some k∧k[off+i]? = some (.int .u8 (zs.getD i 0)):=by
    intro i hi
    have g:=hcell i (by omega)
    rw [Addr.add_lit] at g
    obtain ⟨_,_,k,hk,hc⟩:=view_cell g
    exact ⟨k,hk,hc⟩
   obtain ⟨k,hk,_⟩:=get 0 h0
   refine bytes_of_cells (k:=k) (by rw [view_get];exact hk) (by simp;omega) ?_ ?_
   ·intro y hy
    obtain ⟨z,hz,rfl⟩:=List.mem_map.1 hy
    obtain ⟨m,rfl,hm⟩:=u8_lit (hwf z (List.mem_of_mem_take hz))
    simpa using hm
   ·intro i hi
    obtain ⟨k',hk',hc⟩:=get i (by omega)
    rw [hk] at hk';cases hk'
    rw [hc]
    have hz:zs[i]? = some (zs.getD i 0):=by
     rw [List.getD_eq_getElem?_getD,List.getElem?_eq_getElem (by omega)];rfl
    obtain ⟨m,hm,_⟩:=u8_lit (hwf _ (List.mem_of_getElem? hz))
    have e2:((zs.take len).map Int.toNat).getD i 0=m:=by
     rw [List.getD_eq_getElem?_getD,List.getElem?_map,List.getElem?_take,if_pos hi,hz]
     simp only [Option.map_some,Option.getD_some,hm,Int.toNat_natCast]
    rw [e2,hm]
  ·obtain rfl:len=0:=by omega
   rfl
theorem add_block (a:Addr) (n:Nat):(a.add n).block=a.block:=by unfold Addr.add;split<;>rfl
theorem add_off (a:Addr) (n:Nat):(a.add n).off=a.off+n:=by
 unfold Addr.add
 split
 ·rename_i h;rw [h];rfl
 ·rfl
theorem slice_place {e:TypeId} {a:Addr} {len cap n:Nat} {elems rest:List (DataW H×List MemPlace)} (hpos:0<Try.prog.cellsOf e) (hlc:len≤cap) (hl:elems.length=len)
  (h1 : ∀ i,i<len→(W.cells? base (a.add (i*Try.prog.cellsOf e)) (Try.prog.cellsOf e)).bind (DataW.trod enc Try.prog W base (fun _=>true) held n e)=elems[i]?)
  (h2:rest.length=cap-len ∧ ∀ j,j<cap-len→(W.cells? base (a.add ((len+j)*Try.prog.cellsOf e)) (Try.prog.cellsOf e)).bind (DataW.trod enc Try.prog W base (fun _=>true) held n e)=rest[j]?) :
  0<cap→a.spot=none∧a.block<W.heap.size:=by
 intro h0
 generalize Try.prog.cellsOf e=ce at *
 have key : ∃ cs,W.cells? base (a.add (0*ce)) ce=some cs:=by
  by_cases hlen:0<len
  ·have:=h1 0 hlen
   rw [List.getElem?_eq_getElem (by omega),Option.bind_eq_some_iff] at this
   obtain ⟨cs,hc,_⟩:=this
   exact ⟨cs,hc⟩
  ·have:=h2.2 0 (by omega)
   rw [List.getElem?_eq_getElem (by omega),Option.bind_eq_some_iff] at this
   obtain ⟨cs,hc,_⟩:=this
   obtain rfl:len=0:=by omega
   exact ⟨cs,hc⟩
 obtain ⟨cs,hc⟩:=key
 obtain ⟨_,hlen,hcell⟩:=World.cells?_some hc
 have g:=hcell 0 hpos
 obtain ⟨c0,hc0⟩ : ∃ c0,cs[0]? = some c0:=⟨cs[0],List.getElem?_eq_getElem (by omega)⟩
 rw [hc0,Nat.zero_mul] at g
 have g:W.cell? a=some c0:=g
 obtain ⟨e1,e2,_⟩:=view_cell g
 exact ⟨e1,e2⟩
theorem trod_recs {fuel:Nat} {v:Value} {x:DataW H×List MemPlace} (h:DataW.trod enc Try.prog W base (fun _=>true) held fuel 31 [v]=some x) :
  isHole (clean W.heap.size v)=false ∧ ∃ ls,fx (fD W (view W)) (clean W.heap.size v) ls:=by
 rcases DataW.trod_slice Try.underlying31 h with ⟨h1,_⟩|⟨a,len,cap,elems,rest,n,_,h1,_,_,hlc,hcm,hl,hel,hsp,_⟩
 ·cases h1
  exact ⟨rfl,[],none,0,0,rfl,rfl,Nat.zero_le _,fun i hi=>absurd hi (Nat.not_lt_zero i)⟩
 ·cases h1
  have hp32:0<Try.prog.cellsOf 32:=by rw [cells31];exact Nat.one_pos
  have hpos:=slice_place hp32 hlc hl hel (hsp rfl)
  obtain ⟨g1,a',g2,g3,_⟩:=clean_slice (W:=W) hlc hpos
  refine ⟨g1,?_⟩
  have each : ∀ i,i<len → ∃ k rv l,view W a.block=some k∧k[a.off+i]? = some rv∧isHole rv=false∧BytesV (fD W (view W)) rv l:=by
   intro i hi
   have h2:=hel i hi
   have hil:i<elems.length:=by rw [hl];exact hi
   rw [List.getElem?_eq_getElem hil,Option.bind_eq_some_iff,cells31,Nat.mul_one] at h2
   obtain ⟨cs,hc,ht⟩:=h2
   obtain ⟨_,hlen,hcell⟩:=World.cells?_some hc
   obtain ⟨c,rfl⟩:=List.length_eq_one_iff.1 hlen
   have g:=hcell 0 Nat.one_pos
   obtain ⟨_,_,k,hk,hc2⟩:=view_cell (v:=c) g
   rw [add_block,add_block] at hk
   rw [add_off,add_off,Nat.add_zero] at hc2
   obtain ⟨q1,l,q2⟩:=trod_bytes ht
   exact ⟨k,_,l,hk,hc2,q1,q2⟩
  let f:Nat→List Nat:=fun i=>if hi:i<len then (each i hi).choose_spec.choose_spec.choose else []
  refine ⟨(List.range len).map f,a',len,cap,g2,by simp,by omega,?_⟩
  intro i hi
  have ha:=g3 (by omega)
  subst ha
  obtain ⟨hk,hc,hh,hb⟩:=(each i hi).choose_spec.choose_spec.choose_spec
  refine ⟨a'.block,a'.off,a'.spot,_,_,rfl,by rw [view_get];exact hk,hc,hh,?_⟩
  have:((List.range len).map f).getD i []=f i:=by
   rw [List.getD_eq_getElem?_getD,List.getElem?_map,List.getElem?_range hi];rfl
  rw [this]
  have:f i=(each i hi).choose_spec.choose_spec.choose:=by simp only [f,hi,dif_pos]
  rw [this];exact hb
theorem OpV.move {h:ah} {k k':dW} {o:Nat} {op:OpD} (x:OpV h k 0 op) (hk : ∀ i,i<6→k'[o+i]? = k[i]?):OpV h k' o op where
 kind:=(hk 0 (by decide)).trans x.kind
 A:=(hk 1 (by decide)).trans x.A
 B:=(hk 2 (by decide)).trans x.B
 mask:=(hk 3 (by decide)).trans x.mask
 data:=let ⟨v,h1,h2⟩:=x.data;⟨v,(hk 4 (by decide)).trans h1,h2⟩
 aT:=let ⟨v,h1,h2⟩:=x.aT;⟨v,(hk 5 (by decide)).trans h1,h2⟩
 wf:=x.wf
end
end Go.Proofs.Ytcmfgmhadeeieaa

namespace Go.Proofs.Ytcmfgmhadeeieaa
open Go Go.Abs
theorem BytesV.uniq {h:ah} {v:Value} {l m:List Nat} (a:BytesV h v l) (b:BytesV h v m):l=m:=by
 obtain ⟨x,n,c,rfl,h1,_⟩:=a
 obtain ⟨x',n',c',he,h2,_⟩:=b
 cases he
 rw [h1] at h2
 exact Option.some.inj h2
theorem fx.uniq {h:ah} {v:Value} {l m:List (List Nat)} (a:fx h v l) (b:fx h v m):l=m:=by
 obtain ⟨x,n,c,rfl,h1,_,h2⟩:=a
 obtain ⟨x',n',c',he,g1,_,g2⟩:=b
 cases he
 apply List.ext_getElem?
 intro i
 by_cases hi:i<n
 ·obtain ⟨b1,o1,s1,k1,r1,e1,e2,e3,_,e4⟩:=h2 i hi
  obtain ⟨b2,o2,s2,k2,r2,f1,f2,f3,_,f4⟩:=g2 i hi
  rw [e1] at f1;cases f1
  rw [e2] at f2;cases f2
  rw [e3] at f3;cases f3
  have:=e4.uniq f4
  rw [List.getD_eq_getElem?_getD,List.getD_eq_getElem?_getD,List.getElem?_eq_getElem (by omega),List.getElem?_eq_getElem (by omega)] at this
  rw [List.getElem?_eq_getElem (by omega),List.getElem?_eq_getElem (by omega)]
  exact congrArg some this
 ·rw [List.getElem?_eq_none (by omega),List.getElem?_eq_none (by omega)]
theorem OpV.uniq {h:ah} {k:dW} {o:Nat} {p q:OpD} (a:OpV h k o p) (b:OpV h k o q):p=q:=by
 have e1:=a.kind.symm.trans b.kind
 have e2:=a.A.symm.trans b.A
 have e3:=a.B.symm.trans b.B
 have e4:=a.mask.symm.trans b.mask
 obtain ⟨v,d1,_,d2⟩:=a.data
 obtain ⟨v',f1,_,f2⟩:=b.data
 rw [d1] at f1;cases f1
 obtain ⟨w,g1,_,g2⟩:=a.aT
 obtain ⟨w',i1,_,i2⟩:=b.aT
 rw [g1] at i1;cases i1
 have e5:=d2.uniq f2
 have e6:=g2.uniq i2
 cases p;cases q
 simp only [Option.some.injEq,Value.int.injEq,true_and,u8,Int.natCast_inj] at e1 e2 e3 e4 e5 e6
 subst e1 e2 e3 e4 e5 e6
 rfl
theorem iC.uniq {h:ah} {v:Value} {l m:List OpD} (a:iC h v l) (b:iC h v m):l=m:=by
 obtain ⟨x,n,c,rfl,h1,_,h2⟩:=a
 obtain ⟨x',n',c',he,g1,_,g2⟩:=b
 cases he
 apply List.ext_getElem?
 intro i
 by_cases hi:i<n
 ·obtain ⟨b1,o1,s1,k1,e1,e2,p,e3,e4⟩:=h2 i hi
  obtain ⟨b2,o2,s2,k2,f1,f2,q,f3,f4⟩:=g2 i hi
  rw [e1] at f1;cases f1
  rw [e2] at f2;cases f2
  rw [e3,f3,e4.uniq f4]
 ·rw [List.getElem?_eq_none (by omega),List.getElem?_eq_none (by omega)]
def hY (o:OpD):Bool:=decide (40<o.aT.length)||decide (21000<o.data.length)||o.aT.any fun r=>decide (21000<r.length)
def heavyB (n:Int) (ops:List OpD):Bool:=(decide (64<n)&&decide (n≤4096))||decide (100<ops.length)||ops.any hY
open Classical in
noncomputable def opsOf (h:ah) (v:Value):Option (List OpD):=if hx : ∃ l,iC h v l then some hx.choose else none
theorem iC.of {h:ah} {v:Value} {l:List OpD} (a:iC h v l):opsOf h v=some l:=by
 have hx : ∃ l,iC h v l:=⟨l,a⟩
 unfold opsOf
 rw [dif_pos hx]
 exact congrArg some (hx.choose_spec.uniq a)
theorem opsOf_spec {h:ah} {v:Value} {l:List OpD} (e:opsOf h v=some l):iC h v l:=by
 unfold opsOf at e
 split at e
 ·rename_i hx
  cases e;exact hx.choose_spec
 ·cases e
section
variable (C:al)
theorem heavy_inner (X:Nat→Value) (h:ah) (v:Value) (b off _s0 len c i:Nat) (s:Option Nat) (k:dW) (op:OpD) (hv:v = .slice (some ⟨b,off,s⟩) len c) (hk:h.get b=some k) (hi:i<len) (hop:OpV h k (off+i*6) op)
  (x1:X 1=v) (x5:X 5=aq i) (x6:X 6 = .int .i64 0) :
  Fin 60 (fun ex y g=>g=h∧y 1=v∧y 5=aq i∧((ex = .ret∧y 4 = .bool true∧op.aT.any (fun r=>decide (21000<r.length))=true)∨(ex = .exit 2∧op.aT.any (fun r=>decide (21000<r.length))=false)))
   (iter (aI Try.prog C (partOf Try.f17 [1,1,0,1,0,0,1,0,0,1,1,0,0])) rounds (aY 60 X) h):=by
 obtain ⟨rv,r1,r2,ra,rn,rc,rfl,r3,r4,r5⟩:=hop.aT
 have hix:cd 6 v (aq i)=some (ptr b (off+i*6)):=by
  subst hv
  unfold cd
  simp only [aq]
  rw [if_pos (by omega),Int.toNat_natCast]
 have hrm:rn<rounds:=by
  have h1:rounds=18446744073709551616:=rfl
  have h2:maxLen=9223372036854775807:=rfl
  omega
 have hld:ba (ptr b (off+i*6+5)) h=some (.slice ra rn rc,h):=aN hk r1 r2
 refine cg (t17l17_110100100110_eq C) (Inv:=fun q y g=>q≤rn∧g=h∧y 1=v∧y 5=aq i∧y 6=aq (rn-q) ∧ ∀ j,j<rn-q → ¬21000<(op.aT.getD j []).length) ?_ rn hrm ⟨Nat.le_refl _,rfl,x1,x5,by rw [x6,Nat.sub_self];rfl,fun j hj=>by omega⟩
 rintro q y g ⟨hq,rfl,y1,y5,y6,hno⟩
 unfold gT
 simp -implicitDefEqProofs only [y6,y1,y5,hix,af,aj,ax,hld,bO,bT]
 by_cases hz:q=0
 ·subst hz
  simp -implicitDefEqProofs only [Nat.sub_zero,Int.lt_irrefl,decide_false]
  refine cY.out 2 ⟨rfl,?_,?_,.inr ⟨rfl,?_⟩⟩
  ·simp only [aM,aV,Nat.reduceEqDiff,if_false,y1]
  ·simp only [aM,aV,Nat.reduceEqDiff,if_false,y5]
  ·rw [List.any_eq_false]
   intro r hr
   obtain ⟨j,hj⟩:=List.getElem?_of_mem hr
   have hjl:=(List.getElem?_eq_some_iff.1 hj).1
   have:=hno j (by omega)
   rw [List.getD_eq_getElem?_getD,hj] at this
   simpa using this
 ·have hlt:((rn-q:Nat):Int)<(rn:Int):=by omega
  obtain ⟨b',o',s',k',w,rfl,hk',hc',hh',wa,wn,wc,rfl,hb',hwm⟩:=r5 (rn-q) (by omega)
  have hwl:=(aw hb').1
  have hix2:cd 1 (.slice (some ⟨b',o',s'⟩) rn rc) (aq (rn-q))=some (ptr b' (o'+(rn-q))):=by
   unfold cd
   simp only [aq]
   rw [if_pos (by omega),Int.toNat_natCast,Nat.mul_one]
  have hld2:ba (ptr b' (o'+(rn-q))) g=some (.slice wa wn wc,g):=aN hk' hc' hh'
  simp -implicitDefEqProofs only [decide_eq_true hlt,hix2,hld2,af,aj,bO,dM]
  by_cases hbig:(wn:Int)>21000
  ·simp -implicitDefEqProofs only [hbig,decide_true,af]
   refine cY.ret ⟨rfl,?_,?_,.inl ⟨rfl,?_,?_⟩⟩
   ·simp only [aM,aV,Nat.reduceEqDiff,if_false,y1]
   ·simp only [aM,aV,Nat.reduceEqDiff,if_false,y5]
   ·simp only [aM,aV,Nat.reduceEqDiff,if_true]
   ·rw [List.any_eq_true]
    have hj:op.aT[rn-q]? = some (op.aT.getD (rn-q) []):=by
     rw [List.getD_eq_getElem?_getD,List.getElem?_eq_getElem (by omega)];rfl
    exact ⟨_,List.mem_of_getElem? hj,by rw [decide_eq_true_eq,hwl];omega⟩
  ·simp -implicitDefEqProofs only [hbig,decide_false,af,dL,aj]
   refine cY.next (q-1) (by omega) ⟨by omega,rfl,?_,?_,?_,?_⟩
   ·simp only [aM,aV,Nat.reduceEqDiff,if_false,y1]
   ·simp only [aM,aV,Nat.reduceEqDiff,if_false,y5]
   ·simp only [aM,aV,Nat.reduceEqDiff,if_false,if_true]
    have h2:maxLen=9223372036854775807:=rfl
    rw [bD (by omega) (by omega)]
    exact congrArg (Value.int .i64) (by omega)
   ·intro j hj
    by_cases e:j=rn-q
    ·subst e;rw [hwl];omega
    ·exact hno j (by omega)
theorem heavy_round {v:Value} {h:ah} {ops:List OpD} {a:Option Addr} {len c:Nat} (hv:v = .slice a len c) (hlen:ops.length=len) (hm:len≤100)
  (hat : ∀ i,i<len → ∃ b off s k,a=some ⟨b,off,s⟩∧h.get b=some k ∧ ∃ op,ops[i]? = some op∧OpV h k (off+i*6) op) (X:Nat→Value) (x1:X 1=v) (x5:X 5 = .int .i64 0) :
  Fin 60 (fun ex y g=>g=h∧((ex = .ret∧y 4 = .bool true∧ops.any hY=true)∨(ex = .exit 0∧ops.any hY=false))) (iter (aI Try.prog C (partOf Try.f17 [1,1,0,1,0,0])) rounds (aY 60 X) h):=by
 have hrm:len<rounds:=by
  have h1:rounds=18446744073709551616:=rfl
  omega
 refine cg (t17l17_11010_eq C) (Inv:=fun q y g=>q≤len∧g=h∧y 1=v∧y 5=aq (len-q) ∧ ∀ j o,j<len-q→ops[j]? = some o→hY o=false) ?_ len hrm ⟨Nat.le_refl _,rfl,x1,by rw [x5,Nat.sub_self];rfl,fun j o hj=>by omega⟩
 rintro q y g ⟨hq,rfl,y1,y5,hno⟩
 unfold t17l17_11010
 simp -implicitDefEqProofs only [y5,y1,hv,af,aj,bO,bT]
 by_cases hz:q=0
 ·subst hz
  simp -implicitDefEqProofs only [Nat.sub_zero,Int.lt_irrefl,decide_false]
  refine cY.out 0 ⟨rfl,.inr ⟨rfl,?_⟩⟩
  rw [List.any_eq_false]
  intro r hr
  obtain ⟨j,hj⟩:=List.getElem?_of_mem hr
  have hjl:=(List.getElem?_eq_some_iff.1 hj).1
  rw [hno j r (by omega) hj];decide
 ·have hlt:((len-q:Nat):Int)<(len:Int):=by omega
  obtain ⟨b,off,s,k,rfl,hk,op,hop1,hop⟩:=hat (len-q) (by omega)
  have hix:cd 6 (.slice (some ⟨b,off,s⟩) len c) (aq (len-q))=some (ptr b (off+(len-q)*6)):=by
   unfold cd
   simp only [aq]
   rw [if_pos (by omega),Int.toNat_natCast]
  obtain ⟨dv,d1,d2,da,dn,dc,rfl,d3,d4⟩:=hop.data
  obtain ⟨rv,r1,r2,hrv⟩:=hop.aT
  have hrv2:=hrv
  obtain ⟨ra,rn,rc,rfl,r3,r4,r5⟩:=hrv2
  have hdl:=(aw d3).1
  have ld4:ba (ptr b (off+(len-q)*6+4)) g=some (.slice da dn dc,g):=aN hk d1 d2
  have ld5:ba (ptr b (off+(len-q)*6+5)) g=some (.slice ra rn rc,g):=aN hk r1 r2
  have hmem:op∈ops:=List.mem_of_getElem? hop1
  simp -implicitDefEqProofs only [decide_eq_true hlt,hix,af,aj,ax,ld5,bO,dM,ay]
  by_cases c1:(rn:Int)>40
  ·simp -implicitDefEqProofs only [c1,decide_true,sf,aF,af,if_true]
   refine cY.ret ⟨rfl,.inl ⟨rfl,?_,?_⟩⟩
   ·simp only [aM,aV,Nat.reduceEqDiff,if_true]
   ·rw [List.any_eq_true]
    refine ⟨op,hmem,?_⟩
    unfold hY
    rw [decide_eq_true (by omega:40<op.aT.length)];rfl
  simp -implicitDefEqProofs only [c1,decide_false,beq_self_eq_true,aA,af,aj,hix,ax,ld4,bO,dM,Bool.false_eq_true,if_false]
  by_cases c2:(dn:Int)>21000
  ·simp -implicitDefEqProofs only [c2,decide_true,af]
   refine cY.ret ⟨rfl,.inl ⟨rfl,?_,?_⟩⟩
   ·simp only [aM,aV,Nat.reduceEqDiff,if_true]
   ·rw [List.any_eq_true]
    refine ⟨op,hmem,?_⟩
    unfold hY
    rw [decide_eq_true (by omega:21000<op.data.length),Bool.or_true];rfl
  simp -implicitDefEqProofs only [c2,decide_false,af]
  refine cn (heavy_inner C _ g (.slice (some ⟨b,off,s⟩) len c) b off 0 len c (len-q) s k op rfl hk (by omega) hop ?_ ?_ ?_) ?_
  ·simp only [aM,aV,Nat.reduceEqDiff,if_false,y1,hv]
  ·simp only [aM,aV,Nat.reduceEqDiff,if_false,y5]
  ·simp only [aM,aV,Nat.reduceEqDiff,if_true]
  ·rintro ex z g' ⟨rfl,z1,z5,⟨rfl,z4,hr⟩|⟨rfl,hr⟩⟩
   ·rw [iG]
    refine cY.ret ⟨rfl,.inl ⟨rfl,z4,?_⟩⟩
    rw [List.any_eq_true]
    refine ⟨op,hmem,?_⟩
    unfold hY
    rw [hr,Bool.or_true]
   ·simp -implicitDefEqProofs only [bA,b17_16,if_true,t17k17_10_eq]
    unfold t17k17_10
    simp -implicitDefEqProofs only [z5,af,dL,aj]
    refine cY.next (q-1) (by omega) ⟨by omega,rfl,?_,?_,?_⟩
    ·simp only [aM,aV,Nat.reduceEqDiff,if_false,z1,hv]
    ·simp only [aM,aV,Nat.reduceEqDiff,if_false,if_true]
     rw [bD (by omega) (by omega)]
     exact congrArg (Value.int .i64) (by omega)
    ·intro j o hj ho
     by_cases e:j=len-q
     ·subst e
      rw [hop1] at ho;cases ho
      unfold hY
      rw [hr,decide_eq_false (by omega : ¬40<op.aT.length),decide_eq_false (by omega : ¬21000<op.data.length)];rfl
     ·exact hno j o (by omega) ho
theorem t17_is (n:Int) {v:Value} {h:ah} {ops:List OpD} (ho:iC h v ops):t17 C (.int .i64 n) v h=some (.bool (heavyB n ops),h):=by
 obtain ⟨a,len,c,rfl,hlen,hmx,hat⟩:=ho
 unfold t17 heavyB
 simp -implicitDefEqProofs only [af,dM,aj,ay]
 have key : ∀ X:Nat→Value,X 1 = .slice a len c→X 5 = .int .i64 0 → ¬(len:Int)>100→dD (iter (aI Try.prog C (partOf Try.f17 [1,1,0,1,0,0])) rounds (aY 60 X) h) (au Try.prog Try.f17.results.toList) (b17_6 C)=some (.bool (ops.any hY),h):=by
  intro X x1 x5 h100
  refine cn (Q:=fun o:Out=>o=some (Value.bool (ops.any hY),h)) (heavy_round C rfl hlen (by omega) hat X x1 x5) ?_
  rintro ex z g ⟨rfl,⟨rfl,z4,hr⟩|⟨rfl,hr⟩⟩
  ·rw [iG,res_one (t:=4) (by kernel_rfl) (by decide),z4,hr]
  ·simp -implicitDefEqProofs only [bA,b17_6,if_true,t17k17_4_eq]
   unfold t17k17_4
   rw [af,hr]
 have hl100:(100<ops.length)↔((len:Int)>100):=by omega
 by_cases c1:n>64
 ·have c1':64<n:=c1
  simp -implicitDefEqProofs only [c1,c1',decide_true,beq_self_eq_true,aA,af,bin_leq,aj,if_true,ay,Bool.true_and]
  by_cases c2:n≤4096
  ·simp -implicitDefEqProofs only [c2,decide_true,sf,aF,af,if_true,Bool.true_or]
  ·simp -implicitDefEqProofs only [c2,decide_false,beq_self_eq_true,aA,af,aj,bO,dM,Bool.false_eq_true,if_false,Bool.false_or]
   by_cases c3:(len:Int)>100
   ·simp -implicitDefEqProofs only [c3,decide_true,af,hl100,Bool.true_or]
   ·simp -implicitDefEqProofs only [c3,decide_false,af,hl100,Bool.false_or]
    exact key _ rfl rfl c3
 ·have c1' : ¬64<n:=c1
  simp -implicitDefEqProofs only [c1,c1',decide_false,fs,aF,af,ay,Bool.false_eq_true,if_false,Bool.false_and,beq_self_eq_true,aA,aj,bO,dM,Bool.false_or]
  by_cases c3:(len:Int)>100
  ·simp -implicitDefEqProofs only [c3,decide_true,af,hl100,Bool.true_or]
  ·simp -implicitDefEqProofs only [c3,decide_false,af,hl100,Bool.false_or]
   exact key _ rfl rfl c3
end
noncomputable def s17:List Value→ah→Out
 | [.int .i64 n,v],h=>match opsOf h v with
   |some ops=>some (.bool (heavyB n ops),h)
   |none=>none
 |_,_=>none
theorem s17_at {h:ah} {v:Value} {ops:List OpD} (n:Int) (ho:iC h v ops):s17 [.int .i64 n,v] h=some (.bool (heavyB n ops),h):=by
 unfold s17
 simp only [ho.of]
theorem is17:cA Try.prog 17 Try.f17:=⟨by kernel_rfl,by kernel_rfl,by kernel_rfl,by kernel_rfl⟩
theorem c17:cq Try.prog 17 s17:=by
 have key : ∀ args h v h',s17 args h=some (v,h') → ∃ n x ops,args = [.int .i64 n,x]∧iC h x ops∧v = .bool (heavyB n ops)∧h'=h:=by
  intro args h v h' e
  unfold s17 at e
  split at e
  ·split at e
   ·cases e;exact ⟨_,_,_,rfl,opsOf_spec (by assumption),rfl,rfl⟩
   ·cases e
  ·cases e
 refine .quiet (C:=fe []) (cD [] (by simp)) mixed is17 ?_ ?_
 ·intro args h v h' e
  obtain ⟨n,x,ops,rfl,ho,rfl,rfl⟩:=key _ _ _ _ e
  exact ⟨rfl,fun _=>rfl⟩
 ·intro args h v h' e _ _
  obtain ⟨n,x,ops,rfl,ho,rfl,rfl⟩:=key _ _ _ _ e
  exact ⟨h',(t17_eq _ _ _ _).trans (t17_is _ n ho),fun _ _ h=>h⟩
end Go.Proofs.Ytcmfgmhadeeieaa

namespace Go.Proofs.Ytcmfgmhadeeieaa
open Go Go.Abs
def Rows (h:ah) (F:Nat→Prop) (rows:List Value) (vals:List (List Nat)):Prop:=
 rows.length=vals.length ∧ ∀ j,j<vals.length → ∃ B off s c,rows[j]? = some (.slice (some ⟨B,off,s⟩) 128 c)∧av (some ⟨B,off,s⟩) 128 h=some (vals.getD j []) ∧ ¬F B
theorem Rows.cN {h:ah} {F:Nat→Prop} {rows:List Value} {vals:List (List Nat)} (r:Rows h F rows vals):cN rows=true:=by
 unfold Abs.cN
 rw [List.all_eq_true]
 intro v hv
 obtain ⟨j,hj⟩:=List.getElem?_of_mem hv
 have hl:=(List.getElem?_eq_some_iff.1 hj).1
 obtain ⟨B,off,s,c,h1,_⟩:=r.2 j (by rw [←r.1];exact hl)
 rw [hj] at h1;cases h1;rfl
theorem Rows.one {h:ah} {F:Nat→Prop} {rows:List Value} {vals:List (List Nat)} (r:Rows h F rows vals):bK rows=true:=by
 unfold bK
 rw [List.all_eq_true]
 intro v hv
 obtain ⟨j,hj⟩:=List.getElem?_of_mem hv
 have hl:=(List.getElem?_eq_some_iff.1 hj).1
 obtain ⟨B,off,s,c,h1,_⟩:=r.2 j (by rw [←r.1];exact hl)
 rw [hj] at h1;cases h1;rfl
theorem eX {a:Option Addr} {n:Nat} {h:ah} {l:List Nat} (e:av a n h=some l) (hn:0<n) : ∃ b off s,a=some ⟨b,off,s⟩∧b<h.next:=by
 obtain ⟨_,_,hat⟩:=aw e
 obtain ⟨b,off,s,k,rfl,hk,_⟩:=hat hn
 exact ⟨b,off,s,rfl,h.aR hk⟩
theorem Rows.move {h h':ah} {F F':Nat→Prop} {rows:List Value} {vals:List (List Nat)} (r:Rows h F rows vals) (hf : ∀ b,b<h.next→F' b→F b) (hg : ∀ b,b<h.next → ¬F b→h'.get b=h.get b):Rows h' F' rows vals:=by
 refine ⟨r.1,fun j hj => ?_⟩
 obtain ⟨B,off,s,c,h1,h2,h3⟩:=r.2 j hj
 have hlt:B<h.next:=by
  obtain ⟨b,o,s',e,hb⟩:=eX h2 (by decide)
  cases e;exact hb
 refine ⟨B,off,s,c,h1,?_,fun h=>h3 (hf B hlt h)⟩
 rw [dt (h:=h) (fun y hy=>by cases hy;exact hg B hlt h3)]
 exact h2
theorem Rows.snoc {h:ah} {F:Nat→Prop} {rows:List Value} {vals:List (List Nat)} (r:Rows h F rows vals) {B off c:Nat} {s:Option Nat} {l:List Nat} (hl:av (some ⟨B,off,s⟩) 128 h=some l) (hF : ¬F B) :
  Rows h F (rows ++ [.slice (some ⟨B,off,s⟩) 128 c]) (vals ++ [l]):=by
 refine ⟨by simp [r.1],fun j hj => ?_⟩
 by_cases e:j<vals.length
 ·obtain ⟨B',off',s',c',h1,h2,h3⟩:=r.2 j e
  refine ⟨B',off',s',c',by rw [List.getElem?_append_left (by rw [r.1];exact e)];exact h1,?_,h3⟩
  rw [h2,List.getD_eq_getElem?_getD,List.getD_eq_getElem?_getD,List.getElem?_append_left e]
 ·have hj2:j=vals.length:=by simp at hj;omega
  subst hj2
  refine ⟨B,off,s,c,by rw [List.getElem?_append_right (by rw [r.1];exact Nat.le_refl _),r.1,Nat.sub_self];rfl,?_,hF⟩
  rw [hl,List.getD_eq_getElem?_getD,List.getElem?_append_right (Nat.le_refl _),Nat.sub_self];rfl
structure Last (h:ah) (N d bb n:Nat) (v:Value) (vals:List (List Nat)) (L:Nat) (sp:Option Nat) (rows:List Value):Prop where
 v:v = .slice (some ⟨L,0,sp⟩) n n
 sp:n=0∧sp=none∨sp=some 1
 get:h.get L=some rows
 len:rows.length=n
 vlen:vals.length=n
 n0:h.n0≤N
 NL:N≤L
 Ld:L≠d
 Lb:L≠bb
 rows:Rows h (fun b=>b=d∨b=bb∨b=L) rows vals
theorem get_kill {h:ah} {L:Nat} (h0:h.n0≤L) (hn:L<h.next) {c:Nat} (hc:c≠L):(h.kill L).get c=h.get c:=by
 unfold ah.kill
 rw [ah.get_put _ h0 hn,if_neg hc]
theorem append_row {g:ah} {N d bb m:Nat} {v:Value} {vals:List (List Nat)} {L:Nat} {sp:Option Nat} {rows:List Value} (hl:Last g N d bb m v vals L sp rows) (hm:m≤4096) (hd:d<g.next) (hbb:bb<g.next) (_dN:N≤d) (_bN:N≤bb)
  {X B off c:Nat} {s:Option Nat} {l:List Nat} (hX:g.get X=some [.slice (some ⟨B,off,s⟩) 128 c]) (hB:av (some ⟨B,off,s⟩) 128 g=some l) (B1:B≠d) (B2:B≠bb) (B3:B≠L) :
  ∃ g' ,bo 1 24 v (.slice (some ⟨X,0,none⟩) 1 1) g=some (.slice (some ⟨g.next,0,some 1⟩) (m+1) (m+1),g') ∧
    Last g' N d bb (m+1) (.slice (some ⟨g.next,0,some 1⟩) (m+1) (m+1)) (vals ++ [l]) g.next (some 1) (rows ++ [.slice (some ⟨B,off,s⟩) 128 c]) ∧
    g'.n0=g.n0∧g'.next=g.next+1∧(∀ b,b<g.next→b≠L→g'.get b=g.get b):=by
 have hLn:L<g.next:=g.aR hl.get
 have hBlt:B<g.next:=by
  obtain ⟨b,o,s',e,hb⟩:=eX hB (by decide)
  cases e;exact hb
 have hnh:=hl.rows.cN
 have hone:=hl.rows.one
 have f1:bW 1 1 (.slice (some ⟨X,0,none⟩) 1 1) g=some [.slice (some ⟨B,off,s⟩) 128 c]:=by
  simp only [bW,hX]
  rw [if_neg (by decide),if_pos ⟨Nat.le_refl _,rfl⟩];rfl
 have f2:bW 1 m (.slice (some ⟨L,0,sp⟩) m m) g=some rows:=by
  simp only [bW,Nat.mul_one,hl.get,List.drop_zero]
  by_cases h0:m=0
  ·rw [if_pos h0]
   have:rows = []:=List.length_eq_zero_iff.1 (hl.len.trans h0)
   rw [this]
  ·rw [if_neg h0,List.take_of_length_le (by rw [hl.len];exact Nat.le_refl _),if_pos ⟨by rw [hl.len];omega,hnh⟩]
 have main : ∀ g1:ah,g1.n0=g.n0→g1.next=g.next→(∀ b,b≠L→g1.get b=g.get b) →
   Last (g1.alloc (rows ++ [.slice (some ⟨B,off,s⟩) 128 c])) N d bb (m+1) (.slice (some ⟨g.next,0,some 1⟩) (m+1) (m+1)) (vals ++ [l]) g.next (some 1) (rows ++ [.slice (some ⟨B,off,s⟩) 128 c]) ∧
   (g1.alloc (rows ++ [.slice (some ⟨B,off,s⟩) 128 c])).n0=g.n0∧(g1.alloc (rows ++ [.slice (some ⟨B,off,s⟩) 128 c])).next=g.next+1∧(∀ b,b<g.next→b≠L→(g1.alloc (rows ++ [.slice (some ⟨B,off,s⟩) 128 c])).get b=g.get b):=by
  intro g1 e1 e2 e3
  have hget : ∀ b,b<g.next→b≠L→(g1.alloc (rows ++ [.slice (some ⟨B,off,s⟩) 128 c])).get b=g.get b:=by
   intro b hb hbl
   rw [ah.aE,if_neg (by omega),e3 b hbl]
  refine ⟨⟨rfl,.inr rfl,by rw [ah.aE,e2,if_pos rfl],by simp [hl.len],by simp [hl.vlen],by rw [ah.n0_alloc,e1];exact hl.n0,Nat.le_trans hl.NL (Nat.le_of_lt hLn),by omega,by omega,?_⟩,e1,by rw [ah.aS,e2],hget⟩
  refine Rows.snoc (hl.rows.move ?_ ?_) ?_ ?_
  ·rintro b hb (h1|h1|h1)
   ·exact .inl h1
   ·exact .inr (.inl h1)
   ·omega
  ·intro b hb hF
   exact hget b hb (fun e=>hF (.inr (.inr e)))
  ·rw [dt (h:=g) (fun y hy=>by cases hy;exact hget B hBlt B3)];exact hB
  ·rintro (h1|h1|h1)
   ·exact B1 h1
   ·exact B2 h1
   ·omega
 have hcond:(!(bK [Value.slice (some ⟨B,off,s⟩) 128 c]) || !(decide ((m+1)*24≤140737488355328)) || !(decide (m+1≤4611686018427387904))||decide ([Value.slice (some ⟨B,off,s⟩) 128 c].length≠1*1))=false:=by
  rw [decide_eq_true (by omega:(m+1)*24≤140737488355328),decide_eq_true (by omega:m+1≤4611686018427387904)];rfl
 rw [hl.v]
 unfold bo
 simp only [lenA,f1]
 rw [if_neg (by rw [hcond];decide),if_neg (by omega)]
 simp only [f2]
 rw [if_neg (by rw [hl.len];simp)]
 rcases hl.sp with ⟨h0,rfl⟩|rfl
 ·obtain ⟨q1,q2,q3,q4⟩:=main g rfl rfl (fun _ _=>rfl)
  exact ⟨_,rfl,q1,q2,q3,q4⟩
 ·have hlive:(g.get L).isSome=true:=by rw [hl.get];rfl
  have hn0L:g.n0≤L:=Nat.le_trans hl.n0 hl.NL
  simp only [hlive,decide_true,Bool.and_true,decide_eq_true hn0L,if_true]
  obtain ⟨q1,q2,q3,q4⟩:=main (g.kill L) rfl rfl (fun b hb=>get_kill hn0L hLn hb)
  exact ⟨_,rfl,q1,q2,q3,q4⟩
end Go.Proofs.Ytcmfgmhadeeieaa

namespace Go.Proofs.Ytcmfgmhadeeieaa
open Go Go.Abs
theorem Last.move {h h':ah} {N d bb n:Nat} {v:Value} {vals:List (List Nat)} {L:Nat} {sp:Option Nat} {rows:List Value} (l:Last h N d bb n v vals L sp rows) (h0:h'.n0=h.n0)
  (hg : ∀ b,b<h.next→b≠d→b≠bb→h'.get b=h.get b):Last h' N d bb n v vals L sp rows where
 v:=l.v
 sp:=l.sp
 get:=by rw [hg L (h.aR l.get) l.Ld l.Lb];exact l.get
 len:=l.len
 vlen:=l.vlen
 n0:=by rw [h0];exact l.n0
 NL:=l.NL
 Ld:=l.Ld
 Lb:=l.Lb
 rows:=l.rows.move (fun _ _ h=>h) (fun b hb hF=>hg b hb (fun e=>hF (.inl e)) (fun e=>hF (.inr (.inl e))))
theorem bsl_row (h:ah) (B off c:Nat) (s:Option Nat):cX 1 (.slice none 0 0) 1 [(0,.slice (some ⟨B,off,s⟩) 128 c)] h=some (.slice (some ⟨h.next,0,none⟩) 1 1,h.alloc [.slice (some ⟨B,off,s⟩) 128 c]):=by
 unfold cX
 rw [if_pos (by rfl)]
 rfl
theorem bsl_empty (h:ah):cX 1 (.slice none 0 0) 0 [] h=some (.slice (some ⟨h.next,0,none⟩) 0 0,h.alloc []):=rfl
theorem bsl_bytes (h:ah):cX 1 (.int .u8 0) 0 [] h=some (.slice (some ⟨h.next,0,none⟩) 0 0,h.alloc []):=rfl
theorem sliceBytes_set {g:ah} {b off m i v:Nat} {s:Option Nat} {k:dW} {l:List Nat} (h0:g.n0≤b) (hk:g.get b=some k) (hl:av (some ⟨b,off,s⟩) m g=some l) (hi:i<m) (hv:v<256) :
  av (some ⟨b,off,s⟩) m (g.set b (k.set (off+i) (u8 v)))=some (l.set i v):=by
 obtain ⟨hlen,hb,hat⟩:=aw hl
 obtain ⟨b',off',s',k',he,hk',hkl,hc⟩:=hat (by omega)
 cases he
 rw [hk] at hk';cases hk'
 refine bytes_of_cells (ah.bI h0 hk _) (by simpa using hlen) ?_ ?_
 ·intro y hy
  rcases List.mem_or_eq_of_mem_set hy with h1|h1
  ·exact hb y h1
  ·omega
 ·intro j hj
  rw [List.getElem?_set]
  by_cases e:i=j
  ·subst e
   rw [if_pos rfl,if_pos (by omega),List.getD_eq_getElem?_getD,List.getElem?_set,if_pos rfl,if_pos (by omega)]
   rfl
  ·rw [if_neg (by omega),hc j hj,List.getD_eq_getElem?_getD,List.getD_eq_getElem?_getD,List.getElem?_set,if_neg e]
theorem xor255 {v:Nat} (hv:v<256):bin Try.prog .xor 5 (u8 v) (.int .u8 255)=some (u8 (v ^^^ 255))∧v ^^^ 255<256:=
 ⟨iv Try.prog 5 (k := .u8) rfl (a:=v) (b:=255) hv (by decide),Nat.xor_lt_two_pow (n:=8) hv (by decide)⟩
section
variable (C:al)
theorem rb_build (x:Nat→Value) (h:ah) (N d bb n:Nat) (hn:n≤4096) (hd:d<h.next) (hbb:bb<h.next) (dN:N≤d) (bN:N≤bb) (_hN:N≤h.next) (x0:x 0=aq n) (x8:x 8 = .int .i64 0)
  (hl : ∃ L sp rows,Last h N d bb 0 (x 7) [] L sp rows) :
  Fin 135 (fun ex y g=>ex = .exit 0∧y 0=aq n∧y 1=x 1∧y 5=x 5∧(∃ L sp rows,Last g N d bb n (y 7) (List.replicate n (List.replicate 128 0)) L sp rows)∧g.n0=h.n0∧h.next≤g.next∧(∀ b,b<N∨b=d∨b=bb→g.get b=h.get b))
   (iter (aI Try.prog C (partOf Try.f4 [1,1,1,1,1,0,1,0,0])) rounds (aY 135 x) h):=by
 have hrm:n<rounds:=by
  have h1:rounds=18446744073709551616:=rfl
  omega
 refine cg (t4l4_11111010_eq C) (Inv:=fun q y g=>q≤n∧y 0=aq n∧y 1=x 1∧y 5=x 5∧y 8=aq (n-q)∧(∃ L sp rows,Last g N d bb (n-q) (y 7) (List.replicate (n-q) (List.replicate 128 0)) L sp rows)∧g.n0=h.n0∧h.next≤g.next∧(∀ b,b<N∨b=d∨b=bb→g.get b=h.get b)) ?_ n hrm
  ⟨Nat.le_refl _,x0,rfl,rfl,by rw [x8,Nat.sub_self];rfl,by rw [Nat.sub_self];exact hl,rfl,Nat.le_refl _,fun _ _=>rfl⟩
 rintro q y g ⟨hq,y0,y1,y5,y8,⟨L,sp,rows,hL⟩,gn,gx,go⟩
 unfold t4l4_11111010
 simp -implicitDefEqProofs only [y8,y0,af,aj,bT]
 by_cases hz:q=0
 ·subst hz
  simp -implicitDefEqProofs only [Nat.sub_zero,Int.lt_irrefl,decide_false]
  refine cY.out 0 ⟨rfl,?_,?_,?_,⟨L,sp,rows,?_⟩,gn,gx,go⟩
  ·simp only [aM,aV,Nat.reduceEqDiff,if_false,y0]
  ·simp only [aM,aV,Nat.reduceEqDiff,if_false,y1]
  ·simp only [aM,aV,Nat.reduceEqDiff,if_false,y5]
  ·simp only [aM,aV,Nat.reduceEqDiff,if_false];exact hL
 ·have hlt:((n-q:Nat):Int)<(n:Int):=by omega
  have hmk:=mk1 (h:=g) (n:=128) (c:=128) (Nat.le_refl _) (by decide)
  have hbs:=bsl_row (g.alloc ((List.replicate 128 0).map u8)) g.next 0 128 none
  have g2get : ∀ b,b<g.next→((g.alloc ((List.replicate 128 0).map u8)).alloc [.slice (some ⟨g.next,0,none⟩) 128 128]).get b=g.get b:=by
   intro b hb
   rw [ah.aE,if_neg (by simp;omega),ah.aE,if_neg (by omega)]
  have hB:av (some ⟨g.next,0,none⟩) 128 ((g.alloc ((List.replicate 128 0).map u8)).alloc [.slice (some ⟨g.next,0,none⟩) 128 128])=some (List.replicate 128 0):=by
   rw [c9 (l:=List.replicate 128 0) (by rw [ah.aE,if_neg (by simp),ah.aE,if_pos rfl]) (by simp) (by intro y hy;rw [List.eq_of_mem_replicate hy];decide)]
   rfl
  have hX:((g.alloc ((List.replicate 128 0).map u8)).alloc [.slice (some ⟨g.next,0,none⟩) 128 128]).get (g.alloc ((List.replicate 128 0).map u8)).next=some [.slice (some ⟨g.next,0,none⟩) 128 128]:=by
   rw [ah.aE,if_pos rfl]
  have hL2:Last ((g.alloc ((List.replicate 128 0).map u8)).alloc [.slice (some ⟨g.next,0,none⟩) 128 128]) N d bb (n-q) (y 7) (List.replicate (n-q) (List.replicate 128 0)) L sp rows:=hL.move rfl (fun b hb _ _=>g2get b hb)
  have hLlt:L<g.next:=g.aR hL.get
  obtain ⟨g',a1,a2,a3,a4,a5⟩:=append_row hL2 (by omega) (by simp;omega) (by simp;omega) dN bN hX hB (by omega) (by omega) (by omega)
  simp -implicitDefEqProofs only [decide_eq_true hlt,af]
  rw [show (Value.int .i64 128)=aq 128 from rfl,hmk]
  simp -implicitDefEqProofs only [af,hbs,a1,dL,aj]
  have e1:n-(q-1)=n-q+1:=by omega
  refine cY.next (q-1) (by omega) ⟨by omega,?_,?_,?_,?_,?_,a3.trans gn,by rw [a4];simp;omega,?_⟩
  ·simp only [aM,aV,Nat.reduceEqDiff,if_false,y0]
  ·simp only [aM,aV,Nat.reduceEqDiff,if_false,y1]
  ·simp only [aM,aV,Nat.reduceEqDiff,if_false,y5]
  ·simp only [aM,aV,Nat.reduceEqDiff,if_false,if_true]
   rw [bD (by omega) (by omega)]
   exact congrArg (Value.int .i64) (by omega)
  ·rw [e1,List.replicate_succ' (n:=n-q) (a:=List.replicate 128 0)]
   exact ⟨_,_,_,a2⟩
  ·intro b hb
   have hblt:b<g.next:=by omega
   have hbL:b≠L:=by
    have:=hL.NL;have:=hL.Ld;have:=hL.Lb
    rcases hb with h1|h1|h1<;>omega
   rw [a5 b (by simp;omega) hbL,g2get b hblt];exact go b hb
theorem rb_flip (x:Nat→Value) (h:ah) (a:Option Addr) (m c:Nat) (l:List Nat) (hm:m≤21000) (hl:av a m h=some l) (ha : ∀ y,a=some y→h.n0≤y.block) (x11:x 11 = .slice a m c) (x13:x 13 = .int .i64 0) :
  Fin 135 (fun ex y g=>ex = .exit 4∧y 0=x 0∧y 1=x 1∧y 5=x 5∧y 7=x 7∧y 9=x 9∧y 10=x 10∧y 12=x 12∧g.n0=h.n0∧g.next=h.next∧(∀ b,(∀ y,a=some y→b≠y.block)→g.get b=h.get b))
   (iter (aI Try.prog C (partOf Try.f4 [1,1,1,1,1,1,0,1,0,0,1,0,0,1,1,1,0,1,0,0])) rounds (aY 135 x) h):=by
 have hrm:m<rounds:=by
  have h1:rounds=18446744073709551616:=rfl
  omega
 refine cg (t4l4_1111110100100111010_eq C) (Inv:=fun q y g=>q≤m∧(y 0=x 0∧y 1=x 1∧y 5=x 5∧y 7=x 7∧y 9=x 9∧y 10=x 10∧y 12=x 12)∧y 11 = .slice a m c∧y 13=aq (m-q)∧g.n0=h.n0∧g.next=h.next∧(∃ l2,av a m g=some l2)∧(∀ b,(∀ y,a=some y→b≠y.block)→g.get b=h.get b)) ?_ m hrm
  ⟨Nat.le_refl _,⟨rfl,rfl,rfl,rfl,rfl,rfl,rfl⟩,x11,by rw [x13,Nat.sub_self];rfl,rfl,rfl,⟨l,hl⟩,fun _ _=>rfl⟩
 rintro q y g ⟨hq,⟨y0,y1,y5,y7,y9,bM,bX⟩,bY,bR,gn,gx,⟨l2,hl2⟩,go⟩
 unfold eY
 simp -implicitDefEqProofs only [bR,bY,af,aj,bO,bT]
 by_cases hz:q=0
 ·subst hz
  simp -implicitDefEqProofs only [Nat.sub_zero,Int.lt_irrefl,decide_false]
  refine cY.out 4 ⟨rfl,?_,?_,?_,?_,?_,?_,?_,gn,gx,go⟩
  ·simp only [aM,aV,Nat.reduceEqDiff,if_false,y0]
  ·simp only [aM,aV,Nat.reduceEqDiff,if_false,y1]
  ·simp only [aM,aV,Nat.reduceEqDiff,if_false,y5]
  ·simp only [aM,aV,Nat.reduceEqDiff,if_false,y7]
  ·simp only [aM,aV,Nat.reduceEqDiff,if_false,y9]
  ·simp only [aM,aV,Nat.reduceEqDiff,if_false,bM]
  ·simp only [aM,aV,Nat.reduceEqDiff,if_false,bX]
 ·have hlt:((m-q:Nat):Int)<(m:Int):=by omega
  obtain ⟨hlen,hb,hat⟩:=aw hl2
  have hat2:=hat (by omega)
  clear hat
  obtain ⟨b,off,s,k,hae,hk,hkl,hc⟩:=hat2
  subst hae
  have hn0:g.n0≤b:=by rw [gn];exact ha _ rfl
  have hix:cd 1 (.slice (some ⟨b,off,s⟩) m c) (aq (m-q))=some (ptr b (off+(m-q))):=by
   unfold cd
   simp only [aq]
   rw [if_pos (by omega),Int.toNat_natCast,Nat.mul_one]
  have hcell:=hc (m-q) (by omega)
  have hv:l2.getD (m-q) 0<256:=by
   rw [List.getD_eq_getElem?_getD,List.getElem?_eq_getElem (by omega)]
   exact hb _ (List.getElem_mem _)
  obtain ⟨hx1,hx2⟩:=xor255 hv
  have hst:=dy (v:=u8 (l2.getD (m-q) 0 ^^^ 255)) hk (show off+(m-q)<k.length by omega) hn0 rfl rfl
  have hsl:=sliceBytes_set hn0 hk hl2 (show m-q<m by omega) hx2
  simp -implicitDefEqProofs only [decide_eq_true hlt,hix,aN hk hcell,hx1,hst,af,dL,aj]
  refine cY.next (q-1) (by omega) ⟨by omega,?_,?_,?_,gn,gx,⟨_,hsl⟩,?_⟩
  ·simp only [aM,aV,Nat.reduceEqDiff,if_false,y0,y1,y5,y7,y9,bM,bX,and_self]
  ·simp only [aM,aV,Nat.reduceEqDiff,if_false,bY]
  ·simp only [aM,aV,Nat.reduceEqDiff,if_false,if_true]
   rw [bD (by omega) (by omega)]
   exact congrArg (Value.int .i64) (by omega)
  ·intro e he
   rw [ah.bE hn0 (g.aR hk) _ (he _ rfl)]
   exact go e he
end
end Go.Proofs.Ytcmfgmhadeeieaa

namespace Go.Proofs.Ytcmfgmhadeeieaa
open Go Go.Abs
section
variable (C:al) (H20 : ∀ args h,C 20 args h=s20 args h)
include H20
theorem rb_check (x:Nat→Value) (h:ah) (N d n:Nat) (D:Dk) (vals:List (List Nat)) (L:Nat) (sp:Option Nat) (rows:List Value) (dk:bf h d D) (hDn:D.n=n) (hdown:D.down=false) (hn:n≤4096)
  (hL:Last h N d D.bb n (x 7) vals L sp rows) (hv : ∀ j,j<n→vals.getD j []=D.read (j:Int)) (x0:x 0=aq n) (x5:x 5=ptr d 0) (x15:x 15 = .int .i64 0) :
  Fin 135 (fun ex y g=>ex = .exit 6∧y 0=x 0∧y 1=x 1∧y 5=x 5∧y 7=x 7∧y 9=x 9∧g.n0=h.n0∧h.next≤g.next∧(∀ b,b<h.next→g.get b=h.get b))
   (iter (aI Try.prog C (partOf Try.f4 [1,1,1,1,1,1,0,1,0,0,1,0,0,1,1,1,1,1,1,1,1,0,0])) rounds (aY 135 x) h):=by
 have hrm:n<rounds:=by
  have h1:rounds=18446744073709551616:=rfl
  omega
 refine cg (t4l4_1111110100100111111110_eq C) (Inv:=fun q y g=>q≤n∧(y 0=x 0∧y 1=x 1∧y 5=x 5∧y 7=x 7∧y 9=x 9)∧y 15=aq (n-q)∧g.n0=h.n0∧h.next≤g.next∧(∀ b,b<h.next→g.get b=h.get b)) ?_ n hrm
  ⟨Nat.le_refl _,⟨rfl,rfl,rfl,rfl,rfl⟩,by rw [x15,Nat.sub_self];rfl,rfl,Nat.le_refl _,fun _ _=>rfl⟩
 rintro q y g ⟨hq,⟨y0,y1,y5,y7,y9⟩,y15,gn,gx,go⟩
 unfold eo
 simp -implicitDefEqProofs only [y15,y0,x0,af,aj,bT]
 by_cases hz:q=0
 ·subst hz
  simp -implicitDefEqProofs only [Nat.sub_zero,Int.lt_irrefl,decide_false]
  refine cY.out 6 ⟨rfl,?_,?_,?_,?_,?_,gn,gx,go⟩
  ·simp only [aM,aV,Nat.reduceEqDiff,if_false,y0,x0]
  ·simp only [aM,aV,Nat.reduceEqDiff,if_false,y1]
  ·simp only [aM,aV,Nat.reduceEqDiff,if_false,y5]
  ·simp only [aM,aV,Nat.reduceEqDiff,if_false,y7]
  ·simp only [aM,aV,Nat.reduceEqDiff,if_false,y9]
 ·have hlt:((n-q:Nat):Int)<(n:Int):=by omega
  have hj:n-q<n:=by omega
  have e1:n-(q-1)=n-q+1:=by omega
  have hq1:q-1<q:=by omega
  have hq2:q-1≤n:=by omega
  generalize n-q=j at *
  have dkg:bf g d D:=dk.mono gn (go d dk.lt) (go D.bb dk.blt)
  have hf:D.fault (j:Int)=0:=by
   unfold Dk.fault
   rw [hdown,hDn,if_neg (by simp),if_neg (by omega)]
  have hrd:=s20_at dkg (j:Int) hf
  have hrl:=Dk.read_length dkg hf
  have hrb:=Dk.read_byte dkg (j:Int)
  generalize hR:D.read (j:Int)=R at *
  have g1get : ∀ b,b<g.next→(g.alloc (R.map u8)).get b=g.get b:=by
   intro b hb
   rw [ah.aE,if_neg (by omega)]
  have g1new:(g.alloc (R.map u8)).get g.next=some (R.map u8):=by rw [ah.aE,if_pos rfl]
  have sl1:av (some ⟨g.next,0,none⟩) 128 (g.alloc (R.map u8))=some R:=by
   rw [c9 g1new (by omega) hrb,List.drop_zero,List.take_of_length_le (by omega)]
  have cv1:=iO (c:=128) sl1
  have hLlt:L<h.next:=h.aR hL.get
  have hLg:(g.alloc (R.map u8)).get L=some rows:=by rw [g1get L (by omega),go L hLlt];exact hL.get
  obtain ⟨B,off,s,c,r1,r2,r3⟩:=hL.rows.2 j (by rw [hL.vlen];exact hj)
  have hBlt:B<h.next:=by
   obtain ⟨b',o',s',e,hb⟩:=eX r2 (by decide)
   cases e;exact hb
  have sl2:av (some ⟨B,off,s⟩) 128 (g.alloc (R.map u8))=some R:=by
   rw [dt (h:=h) (fun z hz=>by cases hz;show (g.alloc (R.map u8)).get B=h.get B;rw [g1get B (by omega)];exact go B hBlt),r2,hv j hj]
   exact congrArg some hR
  have cv2:=iO (c:=c) sl2
  have hix:cd 1 (.slice (some ⟨L,0,sp⟩) n n) (aq j)=some (ptr L j):=by
   unfold cd
   simp only [aq]
   rw [if_pos (by omega),Int.toNat_natCast,Nat.zero_add,Nat.mul_one]
  have hld:ba (ptr L j) (g.alloc (R.map u8))=some (.slice (some ⟨B,off,s⟩) 128 c,g.alloc (R.map u8)):=aN hLg r1
  have hix2:cd 1 (.slice (some ⟨g.next,0,none⟩) 128 128) (.int .i64 0)=some (ptr g.next 0):=rfl
  have hr0:R[0]? = some (R.getD 0 0):=by
   rw [List.getD_eq_getElem?_getD,List.getElem?_eq_getElem (by omega)];rfl
  have hld2:ba (ptr g.next 0) (g.alloc (R.map u8))=some (u8 (R.getD 0 0),g.alloc (R.map u8)):=aN g1new (by rw [List.getElem?_map,hr0];rfl)
  obtain ⟨hx1,hx2⟩:=xor255 (hrb _ (List.mem_of_getElem? hr0))
  have hst:=dy (v:=u8 (R.getD 0 0 ^^^ 255)) g1new (show 0<(R.map u8).length by simp;omega) (show (g.alloc (R.map u8)).n0≤g.next from g.aH) rfl rfl
  have hxt0 : ∀ a b:Value,aD (.tuple #[a,b]) 0=some a:=fun _ _=>rfl
  have hxt1 : ∀ a b:Value,aD (.tuple #[a,b]) 1=some b:=fun _ _=>rfl
  have hs:(!((strOf R).toList==(strOf R).toList))=false:=by simp
  simp -implicitDefEqProofs only [decide_eq_true hlt,y5,x5,y7,hL.v,H20,hrd,cT,hxt0,hxt1,af,aj,bin28n,bne_self_eq_false,ay,beq_self_eq_true,aA,cv1,hix,hld,cv2,bin_str_neq,Bool.not_true,Bool.false_eq_true,if_false,hix2,hld2,hx1,hst,dL]
  refine cY.next (q-1) hq1 ⟨hq2,?_,?_,gn,?_,?_⟩
  ·simp only [aM,aV,Nat.reduceEqDiff,if_false,y0,x0,y1,y5,x5,y7,hL.v,y9,and_self]
  ·simp only [aM,aV,Nat.reduceEqDiff,if_false,if_true]
   rw [bD (by omega) (by omega),e1]
   rfl
  ·show h.next≤(g.alloc (R.map u8)).next
   rw [ah.aS];omega
  ·intro b hb
   rw [ah.bE (show (g.alloc (R.map u8)).n0≤g.next from g.aH) (by simp) _ (by omega),g1get b (by omega)]
   exact go b hb
end
end Go.Proofs.Ytcmfgmhadeeieaa

namespace Go.Proofs.Ytcmfgmhadeeieaa
open Go Go.Abs
theorem eu {l xs:List Nat} {o:Nat} (h:o+xs.length≤l.length) (i:Nat):(cJ l o xs)[i]? = if o≤i∧i<o+xs.length then xs[i-o]? else l[i]? := by
 have h1:(l.take o).length=o:=by simp;omega
 unfold cJ
 by_cases c1:i<o
 ·rw [List.append_assoc,List.getElem?_append_left (by omega),List.getElem?_take,if_pos c1,if_neg (by omega)]
 ·by_cases c2:i<o+xs.length
  ·rw [List.getElem?_append_left (by simp;omega),List.getElem?_append_right (by omega),h1,if_pos ⟨by omega,c2⟩]
  ·rw [List.getElem?_append_right (by simp;omega),List.getElem?_drop,if_neg (by omega)]
   congr 1
   simp;omega
theorem read_lay {h:ah} {d:Nat} {D:Dk} (x:bf h d D) {A j:Nat} (hA:A<D.n) (_hj:j<D.n) {data:List Nat} (hd:data.length=128):(D.lay (A:Int) data).read (j:Int)=if j=A then data else D.read (j:Int):=by
 have hlen:=x.len
 have hs:A*128+data.length≤D.aW.length:=by omega
 unfold Dk.read Dk.lay
 simp only [Int.toNat_natCast]
 by_cases e:j=A
 ·subst e
  rw [if_pos rfl]
  apply List.ext_getElem?
  intro i
  rw [List.getElem?_take,List.getElem?_drop]
  by_cases hi:i<128
  ·rw [if_pos hi,eu hs,if_pos (by omega),Nat.add_sub_cancel_left]
  ·rw [if_neg hi,List.getElem?_eq_none (by omega)]
 ·rw [if_neg e]
  apply List.ext_getElem?
  intro i
  rw [List.getElem?_take,List.getElem?_drop,List.getElem?_take,List.getElem?_drop]
  by_cases hi:i<128
  ·rw [if_pos hi,if_pos hi,eu hs,if_neg]
   intro hc
   have:j*128+i<A*128+128:=by omega
   have h2:A*128≤j*128+i:=hc.1
   omega
  ·rw [if_neg hi,if_neg hi]
theorem Last.set {g:ah} {N d bb n:Nat} {v:Value} {vals:List (List Nat)} {L:Nat} {sp:Option Nat} {rows:List Value} (l:Last g N d bb n v vals L sp rows) {A B off c:Nat} {s:Option Nat} {data:List Nat} (hA:A<n)
  (hB:av (some ⟨B,off,s⟩) 128 g=some data) (B1:B≠d) (B2:B≠bb) (B3:B≠L) :
  cf 1 (ptr L A) (.slice (some ⟨B,off,s⟩) 128 c) g=some (undef,g.set L (rows.set A (.slice (some ⟨B,off,s⟩) 128 c))) ∧
  Last (g.set L (rows.set A (.slice (some ⟨B,off,s⟩) 128 c))) N d bb n v (vals.set A data) L sp (rows.set A (.slice (some ⟨B,off,s⟩) 128 c)):=by
 have hL0:g.n0≤L:=Nat.le_trans l.n0 l.NL
 have hLn:L<g.next:=g.aR l.get
 refine ⟨dy l.get (by rw [l.len];exact hA) hL0 rfl rfl,l.v,l.sp,ah.bI hL0 l.get _,by simp [l.len],by simp [l.vlen],l.n0,l.NL,l.Ld,l.Lb,?_⟩
 have aC : ∀ b,b≠L→(g.set L (rows.set A (.slice (some ⟨B,off,s⟩) 128 c))).get b=g.get b:=fun b hb=>ah.bE hL0 hLn _ hb
 refine ⟨by simp [l.len,l.vlen],fun j hj => ?_⟩
 have hj2:j<vals.length:=by simpa using hj
 by_cases e:A=j
 ·subst e
  refine ⟨B,off,s,c,by rw [List.getElem?_set,if_pos rfl,if_pos (by rw [l.len];exact hA)],?_,?_⟩
  ·rw [dt (h:=g) (fun y hy=>by cases hy;exact aC B B3),hB,List.getD_eq_getElem?_getD,List.getElem?_set,if_pos rfl,if_pos hj2];rfl
  ·rintro (h1|h1|h1)
   ·exact B1 h1
   ·exact B2 h1
   ·exact B3 h1
 ·obtain ⟨B',off',s',c',r1,r2,r3⟩:=l.rows.2 j hj2
  refine ⟨B',off',s',c',by rw [List.getElem?_set,if_neg e];exact r1,?_,r3⟩
  rw [dt (h:=g) (fun y hy=>by cases hy;exact aC B' (fun h=>r3 (.inr (.inr h)))),r2,List.getD_eq_getElem?_getD,List.getD_eq_getElem?_getD,List.getElem?_set,if_neg e]
theorem append_fresh {g:ah} {E:Nat} {a:Option Addr} {n c:Nat} {l:List Nat} (_hE:g.n0≤E) (hl:av a n g=some l) (hn:n≤21000) :
  ∃ b s c' g',bo 1 1 (.slice (some ⟨E,0,none⟩) 0 0) (.slice a n c) g=some (.slice (some ⟨b,0,s⟩) n c',g')∧av (some ⟨b,0,s⟩) n g'=some l∧cQ (some ⟨b,0,s⟩) n c'=true∧(b=E∨b=g.next) ∧
    g'.n0=g.n0∧g.next≤g'.next∧(∀ e,e<g.next→g'.get e=g.get e):=by
 obtain ⟨hlen,hb,_⟩:=aw hl
 have hf:=firstA_of hl (Nat.le_refl n) (c:=c)
 rw [List.take_of_length_le (by omega)] at hf
 have hcond:(!(bK (l.map u8)) || !(decide ((0+n)*1≤140737488355328)) || !(decide (0+n≤4611686018427387904))||decide ((l.map u8).length≠n*1))=false:=by
  rw [one_u8,decide_eq_true (by omega:(0+n)*1≤140737488355328),decide_eq_true (by omega:0+n≤4611686018427387904),decide_eq_false (by simp;omega)];rfl
 unfold bo
 simp only [lenA,hf]
 rw [if_neg (by rw [hcond];decide)]
 by_cases h0:n=0
 ·subst h0
  have:l = []:=List.length_eq_zero_iff.1 hlen
  subst this
  rw [if_pos (by omega),if_pos rfl]
  exact ⟨E,none,0,g,rfl,rfl,rfl,.inl rfl,rfl,Nat.le_refl _,fun _ _=>rfl⟩
 ·rw [if_neg (by omega)]
  have f0:bW 1 0 (.slice (some ⟨E,0,none⟩) 0 0) g=some []:=rfl
  simp only [f0]
  rw [if_neg (by simp)]
  refine ⟨g.next,some 1,0+n,g.alloc ([]++l.map u8),by rw [Nat.zero_add],?_,?_,.inr rfl,rfl,by simp,?_⟩
  ·rw [List.nil_append,c9 (l:=l) (by rw [ah.aE,if_pos rfl]) (by omega) hb,List.drop_zero,List.take_of_length_le (by omega)]
  ·unfold cQ
   rw [Nat.zero_add]
   simp
  ·intro e he
   rw [ah.aE,if_neg (by omega)]
end Go.Proofs.Ytcmfgmhadeeieaa

