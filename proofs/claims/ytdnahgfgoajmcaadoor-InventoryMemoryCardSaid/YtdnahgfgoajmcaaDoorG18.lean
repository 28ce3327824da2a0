/-
  A part of the proof, spaces and names shortened by a program (a claim may hold 1,500,000 bytes).
  Conditions: as each theorem states.
-/
import Derived.Test.YtdnahgfgoajmcaaDoorG17
namespace Go.Proofs.YtdnahgfgoajmcaaDoor
open Go Go.Abs
open Go.Lib (compareBytes)
attribute [local congr] aj
theorem is111:cj Tryd.prog 111 Tryd.f111:=⟨by kernel_rfl,by kernel_rfl,by kernel_rfl,by kernel_rfl⟩
theorem is112:cj Tryd.prog 112 Tryd.f112:=⟨by kernel_rfl,by kernel_rfl,by kernel_rfl,by kernel_rfl⟩
theorem is56:cj Tryd.prog 56 Tryd.f56:=⟨by kernel_rfl,by kernel_rfl,by kernel_rfl,by kernel_rfl⟩
theorem b111_3e (C:ae) (e:Env) (h:ab):b111_3 C 0 e h=k111_2 C e h:=rfl
theorem shr111 (i:Nat):bin Tryd.prog .shr 111 (.int .u64 (i:Int)) (.int .u64 1)=some (.int .u64 ((i/2:Nat):Int)):=fN Tryd.prog 111 (k := .u64) (k' := .u64) (b:=1) (by decide)
theorem add33 {i j:Nat} (h:i+j≤10000000):bin Tryd.prog .add 3 (ai i) (ai j)=some (ai (i+j)):=by
 unfold ai
 rw [bin_add,wrap_i64 (by omega) (by omega)]
 congr 2
theorem cvU {i:Nat} (h:i≤10000000) (g:ab):cvI .u64 (ai i) g=some (.int .u64 (i:Int),g):=by
 unfold ai
 rw [fz]
 congr 3
 show ((i:Int)%18446744073709551616)=_
 omega
theorem cvN {i:Nat} (h:i≤10000000) (g:ab):cvI .i64 (.int .u64 (i:Int)) g=some (ai i,g):=by
 unfold ai
 rw [fz,wrap_i64 (by omega) (by omega)]
set_option maxRecDepth 100000 in
theorem r111 {h:ab} (hG:4≤h.n0) {fv:Value} {n:Nat} (hn:n≤1000000) (p:Nat→Bool) (hp : ∀ i,i<n → ∀ g,Old h g → ∃ g',callA Tryd.prog CW fv [ai i] g=some (.bool (p i),g')∧Old g g') (mono : ∀ i j,i≤j→j<n→p i=true→p j=true) :
  ∃ k h',CW 111 [ai n,fv] h=some (ai k,h')∧Old h h'∧k≤n∧(∀ i,i<k→p i=false) ∧ ∀ i,k≤i→i<n→p i=true:=by
 have key : ∃ q:Out,t111 CW (ai n) fv h=q ∧ ∃ k h',q=some (ai k,h')∧Old h h'∧k≤n∧(∀ i,i<k→p i=false) ∧ ∀ i,k≤i→i<n→p i=true:=by
  refine ⟨_,rfl,?_⟩
  unfold t111
  simp -implicitDefEqProofs only [ad]
  refine bJ (n:=26) (fin:=fun ex y g=>ex = .exit 0∧Old h g ∧ ∃ k,y 5=ai k∧k≤n∧(∀ i,i<k→p i=false) ∧ ∀ i,k≤i→i<n→p i=true)
   (Q:=fun q:Out => ∃ k h',q=some (ai k,h')∧Old h h'∧k≤n∧(∀ i,i<k→p i=false) ∧ ∀ i,k≤i→i<n→p i=true)
   (bH (t111l111_1100_eq CW) (Inv:=fun k y g => ∃ i j,i+k=j∧j≤n∧y 1=fv∧y 5=ai i∧y 6=ai j∧Old h g∧(∀ a,a<i→p a=false) ∧ ∀ a,j≤a→a<n→p a=true) ?_ n (by have:rounds=18446744073709551616:=rfl;omega) ⟨0,n,by omega,Nat.le_refl _,rfl,rfl,rfl,Kept.refl _ _,fun a h=>absurd h (Nat.not_lt_zero a),fun a h1 h2=>by omega⟩) ?_
  ·rintro k y g ⟨i,j,hij,hjn,y1,y5,y6,Og,lo,hi⟩
   unfold t111l111_1100
   simp -implicitDefEqProofs only [y5,y6,lss3,ad,af]
   by_cases h1:i<j
   ·have hm1:i≤(i+j)/2:=by omega
    have hm2:(i+j)/2<j:=by omega
    obtain ⟨g',e,o⟩:=hp ((i+j)/2) (by omega) g Og
    simp -implicitDefEqProofs only [decide_eq_true h1,add33 (show i+j≤10000000 by omega),cvU (show i+j≤10000000 by omega),shr111,cvN (show (i+j)/2≤10000000 by omega),y1,e,bY,ad,af]
    cases hpm:p ((i+j)/2) with
    |true=>
     simp -implicitDefEqProofs only [Bool.not_true,ad,af]
     exact eS.next ((i+j)/2-i) (by omega) ⟨i,(i+j)/2,by omega,by omega,y1,y5,rfl,Og.trans o,lo,fun a h2 h3=>mono _ _ h2 h3 hpm⟩
    |false=>
     have a5:bin Tryd.prog .add 3 (ai ((i+j)/2)) (.int .i64 1)=some (ai ((i+j)/2+1)):=ff (by omega)
     simp -implicitDefEqProofs only [Bool.not_false,a5,ad,af]
     refine eS.next (j-((i+j)/2+1)) (by omega) ⟨(i+j)/2+1,j,by omega,hjn,y1,rfl,y6,Og.trans o,fun a ha => ?_,hi⟩
     cases hpa:p a with
     |false=>rfl
     |true=>
      have:=mono a ((i+j)/2) (by omega) (by omega) hpa
      rw [hpm] at this
      cases this
   ·simp -implicitDefEqProofs only [decide_eq_false h1,ad]
    refine eS.out 0 ⟨rfl,Og,i,y5,by omega,lo,fun a h2 h3=>hi a (by omega) h3⟩
  ·rintro ex z g ⟨rfl,Og,k,z5,q1,q2,q3⟩
   simp -implicitDefEqProofs only [bn,b111_3e,t111k111_2_eq]
   unfold t111k111_2
   rw [z5]
   exact ⟨k,g,rfl,Og,q1,q2,q3⟩
 obtain ⟨q,e,k,h',e',oo⟩:=key
 exact ⟨k,h',aG is111 hG rfl ((t111_eq _ _ _ _).trans (e.trans e')),oo⟩
def cmpB (r:ak) (l:List Nat):Int:=compareBytes (keyU r) (l.map UInt8.ofNat)
theorem ge0 (n:Int):bin Tryd.prog .geq 3 (.int .i64 n) (.int .i64 0)=some (.bool (decide (0≤n))):=by rw [cJ]
theorem chk_sl2 (g:ab) (a:Option Addr) (n c:Nat):cm true (some (.slice a n c,g)) (.slice a n c)=true:=by
 show (!true||veq (.slice a n c) (.slice a n c))=true
 simp [veq]
theorem r112 {h:ab} (hG:4≤h.n0) {c2 c3 vb:Nat} {va:Value} {R:List ak} {a:Option Addr} {n c:Nat} {l:List Nat} (g2:h.get c2=some [ptr vb 0]) (gv:h.get vb=some [va]) (RS:RSl h va R) (g3:h.get c3=some [.slice a n c]) (hk:aq a n h=some l) {i:Nat} (hi:i<R.length) :
  ∃ h',CW 112 [ai i,ptr c2 0,ptr c3 0] h=some (.bool (decide (0≤cmpB R[i] l)),h')∧Old h h':=by
 obtain ⟨b,o,ix,wr,ld⟩:=RS.rd hi
 obtain ⟨p,d,h1,e1,s1,o1⟩:=r67 hG wr
 have e2:=r66 (h:=h1) (c:=d) (d:=c) (by rw [o1.n0];exact hG) s1 (Old.bytes o1 hk)
 have l2 : ∀ g,Old h g→ld1 (ptr c2 0) g=some (ptr vb 0,g):=fun g og=>ba (Old.get og g2) rfl rfl
 have lv : ∀ g,Old h g→ld1 (ptr vb 0) g=some (va,g):=fun g og=>ba (Old.get og gv) rfl (by obtain ⟨⟨a,c,rfl⟩,_⟩:=RS;rfl)
 have l3 : ∀ g,Old h g→ld1 (ptr c3 0) g=some (.slice a n c,g):=fun g og=>ba (Old.get og g3) rfl rfl
 refine ⟨h1,aG is112 hG rfl ((t112_eq _ _ _ _ _).trans ?_),o1⟩
 unfold t112
 simp -implicitDefEqProofs only [l2 h (Kept.refl _ _),bh,aA,Nat.zero_add,lv h (Kept.refl _ _),ix,ld h (Kept.refl _ _),e1,l3 h1 o1,e2,ge0,l3 h (Kept.refl _ _),chk_sl2,Bool.and_true,ad,af]
 rfl
theorem call112 (x y z:Value) (h:ab):callA Tryd.prog CW (.func (.func 112) #[] #[y,z]) [x] h=CW 112 [x,y,z] h:=by
 have hf:=Nat.le_of_ble_eq_true fs_124
 unfold callA
 simp only
 generalize Tryd.prog.funcs.size=n at *
 rw [if_pos (show (112:Nat)<n by omega)]
 rfl
theorem box_ptr (b o:Nat) (h:ab):box (ptr b o) h=some (ptr h.next 0,h.alloc [ptr b o]):=rfl
theorem box_sl (a:Option Addr) (n c:Nat) (h:ab):box (.slice a n c) h=some (ptr h.next 0,h.alloc [.slice a n c]):=rfl
theorem ks_lt {R:List ak} (ks:KS R) {i j:Nat} (hij:i<j) (hj:j<R.length):cmpK R[i] R[j]<0:=by
 have h:=ks
 unfold KS at h
 rw [List.pairwise_iff_getElem] at h
 exact h i j (by omega) hj hij
theorem cmpB_mono {a b:ak} {l:List Nat} (h:cmpK a b<0) (h1:0≤cmpB a l):0≤cmpB b l:=by
 unfold cmpB cmpK at *
 have h2:=cb_neg (keyU a) (l.map UInt8.ofNat)
 have h3:=cb_neg (keyU b) (l.map UInt8.ofNat)
 have h4:=cb_neg (keyU a) (keyU b)
 have:=cb_ntrans (l.map UInt8.ofNat)
 by_cases h5:compareBytes (keyU b) (l.map UInt8.ofNat)<0
 ·have:=cb_trans _ _ _ h h5
  omega
 ·omega
theorem r56 {h:ab} (hG:4≤h.n0) {vb:Nat} {va:Value} {R:List ak} (gv:h.get vb=some [va]) (RS:RSl h va R) (ks:KS R) (hR:R.length≤1000000) {a:Option Addr} {n c:Nat} {l:List Nat} (hk:aq a n h=some l) :
  ∃ k h',CW 56 [ptr vb 0,.slice a n c] h=some (ai k,h')∧Old h h'∧k≤R.length∧(∀ i,(hi:i<R.length)→i<k→cmpB R[i] l<0) ∧ ∀ i,(hi:i<R.length)→k≤i→0≤cmpB R[i] l:=by
 have o1:Old h (h.alloc [ptr vb 0]):=Kept.alloc _ _ _
 have b1:=box_ptr vb 0 h
 have g1:(h.alloc [ptr vb 0]).get h.next=some [ptr vb 0]:=by rw [ab.aH,if_pos rfl]
 have n1:(h.alloc [ptr vb 0]).next=h.next+1:=rfl
 generalize h.alloc [ptr vb 0]=h1 at *
 have o2:Old h1 (h1.alloc [.slice a n c]):=Kept.alloc _ _ _
 have b2:=box_sl a n c h1
 have g2:(h1.alloc [.slice a n c]).get h1.next=some [.slice a n c]:=by rw [ab.aH,if_pos rfl]
 generalize h1.alloc [.slice a n c]=h2 at *
 have O2:=o1.trans o2
 have g1':=Old.get o2 g1
 have gv':=Old.get O2 gv
 have hll:=RS.len
 have lv:ld1 (ptr vb 0) h2=some (va,h2):=ba gv' rfl (by obtain ⟨⟨a,c,rfl⟩,_⟩:=RS;rfl)
 have l1:ld1 (ptr h.next 0) h2=some (ptr vb 0,h2):=ba g1' rfl rfl
 have hG2:4≤h2.n0:=by rw [O2.n0];exact hG
 obtain ⟨k,h3,e3,o3,hk1,hk2,hk3⟩:=r111 (h:=h2) hG2 (fv := .func (.func 112) #[] #[ptr h.next 0,ptr h1.next 0]) (n:=R.length) hR (fun i=>decide (0≤cmpB (R.getD i ak.z) l))
  (fun i hi g og=>by
   obtain ⟨g',e,o⟩:=r112 (h:=g) (by rw [og.n0];exact hG2) (Old.get og g1') (Old.get og gv') ((RS.mono O2).mono og) (Old.get og g2) (Old.bytes (O2.trans og) hk) hi
   refine ⟨g',?_,o⟩
   rw [call112,e,List.getD_eq_getElem?_getD,List.getElem?_eq_getElem hi]
   rfl)
  (fun i j hij hj hp=>by
   rcases Nat.eq_or_lt_of_le hij with rfl|hlt
   ·exact hp
   ·have hi:i<R.length:=by omega
    simp only [List.getD_eq_getElem?_getD,List.getElem?_eq_getElem hi,List.getElem?_eq_getElem hj,Option.getD_some,decide_eq_true_eq] at hp ⊢
    exact cmpB_mono (ks_lt ks hlt hj) hp)
 refine ⟨k,h3,aG is56 hG rfl ((t56_eq _ _ _ _).trans ?_),O2.trans o3,hk1,fun i hi hik => ?_,fun i hi hik => ?_⟩
 ·unfold t56
  simp -implicitDefEqProofs only [b1,b2,l1,bh,aA,Nat.zero_add,lv,hll,e3,ad,af]
 ·have:=hk2 i hik
  simp only [List.getD_eq_getElem?_getD,List.getElem?_eq_getElem hi,Option.getD_some,decide_eq_false_iff_not] at this
  omega
 ·have:=hk3 i hik hi
  simp only [List.getD_eq_getElem?_getD,List.getElem?_eq_getElem hi,Option.getD_some,decide_eq_true_eq] at this
  exact this
end Go.Proofs.YtdnahgfgoajmcaaDoor

namespace Go.Proofs.YtdnahgfgoajmcaaDoor
open Go Go.Abs
open Go.Lib (compareBytes)
attribute [local congr] aj
theorem is20:cj Tryd.prog 20 Tryd.f20:=⟨by kernel_rfl,by kernel_rfl,by kernel_rfl,by kernel_rfl⟩
theorem RcS.part {h:ab} {v:Value} {R:List ak} (x:RcS h v R) (n:nilOk v) {i j:Nat} (hij:i≤j) (hj:j≤R.length) : ∃ v',slR 39 v (some (ai i)) (some (ai j)) none=some v'∧RcS h v' ((R.take j).drop i)∧nilOk v':=by
 obtain ⟨hd,a,d,rfl,hn,ht,h0⟩:=x
 have hd' : ∀ p∈(R.take j).drop i,ak.Wf p:=fun p hp=>hd p (List.mem_of_mem_take (List.mem_of_mem_drop hp))
 rcases n with h1|⟨a',n',c',h1,hc,hs⟩
 ·cases a with
  |some a=>cases h1
  |none=>
   injection h1 with _ e1 e2
   have hR:R = []:=List.length_eq_zero_iff.1 e1
   subst hR
   subst e2
   obtain rfl:j=0:=by rw [List.length_nil] at hj;omega
   obtain rfl:i=0:=by omega
   exact ⟨.slice none 0 0,rfl,⟨hd',none,0,rfl,fun _=>rfl,eF hd',fun h=>absurd h (Nat.lt_irrefl 0)⟩,.inl rfl⟩
 ·injection h1 with e1 e2 e3
  subst e1 e2 e3
  obtain ⟨b,o,s⟩:=a'
  have hl:((R.take j).drop i).length=j-i:=by rw [List.length_drop,List.length_take];omega
  have hb:cg R.length d (some (ai i)) (some (ai j)) none=some (i,j,d):=by
   have a1:bD d d none=some d:=rfl
   have a2:bD R.length d (some (ai j))=some j:=by
    unfold bD ai
    simp only
    rw [if_pos (by omega)]
    rfl
   have a3:bD 0 j (some (ai i))=some i:=by
    unfold bD ai
    simp only
    rw [if_pos (by omega)]
    rfl
   unfold cg
   simp only [a1,a2,a3]
  have hc:R.length≤d:=hc
  have hsl : ∃ o',slR 39 (.slice (some ⟨b,o,s⟩) R.length d) (some (ai i)) (some (ai j)) none=some (.slice (some ⟨b,o',s⟩) (j-i) (d-i))∧(i<d→o'=o+i*39):=by
   unfold slR eU
   cases s with
   |none=>
    simp only [hb]
    by_cases hdi:d=i
    ·exact ⟨o,by rw [if_pos hdi],fun h=>by omega⟩
    ·exact ⟨o+i*39,by rw [if_neg hdi],fun _=>rfl⟩
   |some t=>
    have:t=39:=hs t rfl
    subst this
    simp only [hb]
    exact ⟨o+i*39,by rw [if_pos ⟨True.intro,by decide⟩],fun _=>rfl⟩
  obtain ⟨oo,hsl,hoo⟩:=hsl
  refine ⟨.slice (some ⟨b,oo,s⟩) (j-i) (d-i),hsl,⟨hd',some ⟨b,oo,s⟩,d-i,by rw [hl],(fun h=>by cases h),eF hd',fun hp => ?_⟩,.inr ⟨_,_,_,rfl,(show j-i≤d-i by omega),hs⟩⟩
  ·rw [hl] at hp
   obtain ⟨b',o',s',k,e,hk,hlen,hcs⟩:=h0 (by omega)
   cases e
   obtain rfl:=hoo (by omega)
   rw [show recK.length=39 from rfl] at hlen hcs
   have h2:(j-i)*39=j*39-i*39:=Nat.sub_mul ..
   have h3:i*39≤j*39:=Nat.mul_le_mul_right _ hij
   have h4:j*39≤R.length*39:=Nat.mul_le_mul_right _ hj
   refine ⟨b,o+i*39,s,k,rfl,hk,by rw [hl,show recK.length=39 from rfl];omega,?_⟩
   rw [hl,show recK.length=39 from rfl]
   have e1:aY ((R.take j).drop i)=((aY R).take (j*39)).drop (i*39):=by
    have lt:(R.take j).length=j:=by rw [List.length_take];omega
    have wt : ∀ p∈R.take j,ak.Wf p:=fun p hp=>hd p (List.mem_of_mem_take hp)
    have q1:aY (R.take j)=(aY R).take (j*39):=by
     conv=>rhs;rw [←List.take_append_drop j R,recsC_app]
     rw [List.take_left' (by rw [cZ wt,lt])]
    have wti : ∀ p∈(R.take j).take i,ak.Wf p:=fun p hp=>wt p (List.mem_of_mem_take hp)
    have lti:((R.take j).take i).length=i:=by rw [List.length_take];omega
    have q2:aY ((R.take j).drop i)=(aY (R.take j)).drop (i*39):=by
     conv=>rhs;rw [←List.take_append_drop i (R.take j),recsC_app]
     rw [List.drop_left' (by rw [cZ wti,lti])]
    rw [q2,q1]
   rw [e1,←hcs,List.take_take,Nat.min_eq_left h4,List.drop_take,List.drop_drop,h2]
def inR (lo hi:List Nat) (r:ak):Bool:=decide (0≤cmpB r lo)&&(decide (hi = [])||decide (cmpB r hi<0))
theorem cut_filter {R:List ak} {p:ak→Bool} {i j:Nat} (hij:i≤j) (hj:j≤R.length) (h1 : ∀ k,(hk:k<R.length)→i≤k→k<j→p R[k]=true) (h2 : ∀ k,(hk:k<R.length)→(k<i∨j≤k)→p R[k]=false):(R.take j).drop i=R.filter p:=by
 have e:R=(R.take j).take i++((R.take j).drop i++R.drop j):=by rw [←List.append_assoc,List.take_append_drop,List.take_append_drop]
 conv=>rhs;rw [e,List.filter_append,List.filter_append]
 have a1:((R.take j).take i).filter p = []:=by
  rw [List.filter_eq_nil_iff]
  intro x hx
  obtain ⟨k,hk,rfl⟩:=List.mem_iff_getElem.1 hx
  rw [List.length_take,List.length_take] at hk
  rw [List.getElem_take,List.getElem_take,h2 k (by omega) (.inl (by omega))]
  decide
 have a3:(R.drop j).filter p = []:=by
  rw [List.filter_eq_nil_iff]
  intro x hx
  obtain ⟨k,hk,rfl⟩:=List.mem_iff_getElem.1 hx
  rw [List.length_drop] at hk
  rw [List.getElem_drop,h2 (j+k) (by omega) (.inr (by omega))]
  decide
 have a2:((R.take j).drop i).filter p=(R.take j).drop i:=by
  rw [List.filter_eq_self]
  intro x hx
  obtain ⟨k,hk,rfl⟩:=List.mem_iff_getElem.1 hx
  rw [List.length_drop,List.length_take] at hk
  rw [List.getElem_drop,List.getElem_take,h1 (i+k) (by omega) (by omega) (by omega)]
 rw [a1,a2,a3,List.nil_append,List.append_nil]
theorem max3 (a b:Nat):eh true (ai a) [ai b]=some (ai (max a b)):=by
 unfold ai eh
 simp only [if_true]
 unfold eh
 by_cases h:a<b
 ·rw [if_pos (by simpa using h)]
  congr 2
  omega
 ·rw [if_neg (by simpa using h)]
  congr 2
  omega
theorem chk_int (n:Nat) (g:ab):cm true (some (ai n,g)) (ai n)=true:=chkI .i64 _ _
set_option maxRecDepth 100000 in
theorem r20 {h:ab} (hG:4≤h.n0) {vb:Nat} {va:Value} {R:List ak} (gv:h.get vb=some [va]) (RS:RcS h va R) (nv:nilOk va) (ks:KS R) (hR:R.length≤1000000) {al ah:Option Addr} {nl cl nh ch:Nat} {lo hi:List Nat} (hlo:aq al nl h=some lo) (hhi:aq ah nh h=some hi) :
  ∃ v' h',CW 20 [ptr vb 0,.slice al nl cl,.slice ah nh ch] h=some (v',h')∧Old h h'∧RSl h' v' (R.filter (inR lo hi)):=by
 obtain ⟨k1,h1,e1,o1,a1,a2,a3⟩:=r56 (c:=cl) hG gv RS.rsl ks hR hlo
 have lv : ∀ g,Old h g→ld1 (ptr vb 0) g=some (va,g):=fun g og=>ba (Old.get og gv) rfl (hole_nil nv)
 have hll:=RS.rsl.len
 have cv : ∀ g,cm true (some (va,g)) va=true:=fun g=>by
  rcases nv with rfl|⟨a,n,c,rfl,_⟩<;>exact chk_sl2 ..
 have hlen:=(aD hhi).1
 have gtr0:bin Tryd.prog .gtr 3 (ai nh) (.int .i64 0)=some (.bool (decide (0<nh))):=gtrC nh 0 0 rfl
 have hnh : ∀ n c:Nat,∀ a:Option Addr,cx (.slice a n c)=some (ai n):=fun _ _ _=>rfl
 by_cases h0:0<nh
 ·obtain ⟨k2,h2,e2,o2,b1,b2,b3⟩:=r56 (h:=h1) (c:=ch) (by rw [o1.n0];exact hG) (Old.get o1 gv) (RS.mono o1).rsl ks hR (Old.bytes o1 hhi)
  have O2:=o1.trans o2
  obtain ⟨v3,s3,r3,n3⟩:=(RS.mono O2).part nv (i:=k1) (j:=max k1 k2) (by omega) (by omega)
  obtain ⟨v4,h4,e4,o4,r4⟩:=r57 (h:=h2) (by rw [O2.n0];exact hG) r3 n3 (by rw [List.length_drop,List.length_take];omega)
  refine ⟨v4,h4,aG is20 hG rfl ((t20_eq _ _ _ _ _).trans ?_),O2.trans o4,?_⟩
  ·unfold t20
   simp -implicitDefEqProofs only [nil25,e1,bh,aA,Nat.zero_add,lv h1 o1,lv h (Kept.refl _ _),hll,cv,af,chk_int,Bool.and_true,hnh,gtr0,decide_eq_true h0,e2,max3,lv h2 O2,s3,e4,ad]
  ·have:(R.take (max k1 k2)).drop k1=R.filter (inR lo hi):=by
    refine cut_filter (by omega) (by omega) (fun k hk q1 q2 => ?_) (fun k hk q => ?_)
    ·have p1:=a3 k hk q1
     have p2:=b2 k hk (by omega)
     unfold inR
     rw [decide_eq_true p1,decide_eq_true p2,Bool.or_true]
     rfl
    ·unfold inR
     rcases q with q|q
     ·have:=a2 k hk q
      rw [decide_eq_false (by omega : ¬0≤cmpB R[k] lo),Bool.false_and]
     ·have p:=b3 k hk (by omega)
      have hne:hi ≠ []:=fun e=>by rw [e] at hlen;rw [List.length_nil] at hlen;omega
      rw [decide_eq_false hne,decide_eq_false (by omega : ¬cmpB R[k] hi<0),Bool.or_false,Bool.and_false]
   rw [←this]
   exact r4
 ·obtain ⟨v3,s3,r3,n3⟩:=(RS.mono o1).part nv (i:=k1) (j:=R.length) a1 (Nat.le_refl _)
  obtain ⟨v4,h4,e4,o4,r4⟩:=r57 (h:=h1) (by rw [o1.n0];exact hG) r3 n3 (by rw [List.length_drop,List.length_take];omega)
  refine ⟨v4,h4,aG is20 hG rfl ((t20_eq _ _ _ _ _).trans ?_),o1.trans o4,?_⟩
  ·unfold t20
   simp -implicitDefEqProofs only [nil25,e1,bh,aA,Nat.zero_add,lv h1 o1,lv h (Kept.refl _ _),hll,cv,af,chk_int,Bool.and_true,hnh,gtr0,decide_eq_false h0,s3,e4,ad]
  ·have:(R.take R.length).drop k1=R.filter (inR lo hi):=by
    have hnil:hi = []:=List.length_eq_zero_iff.1 (by omega)
    refine cut_filter a1 (Nat.le_refl _) (fun k hk q1 q2 => ?_) (fun k hk q => ?_)
    ·have p1:=a3 k hk q1
     unfold inR
     rw [decide_eq_true p1,decide_eq_true hnil]
     rfl
    ·unfold inR
     rcases q with q|q
     ·have:=a2 k hk q
      rw [decide_eq_false (by omega : ¬0≤cmpB R[k] lo),Bool.false_and]
     ·omega
   rw [←this]
   exact r4
end Go.Proofs.YtdnahgfgoajmcaaDoor

namespace Go.Proofs.YtdnahgfgoajmcaaDoor
open Go Go.Abs
attribute [local congr] aj
structure dt where
 kind:Nat
 frm:Int
 to:Int
 al:Option Addr
 nl:Nat
 cl:Nat
 ah:Option Addr
 nh:Nat
 ch:Nat
 cnt:Int
 root:List Nat
 ar:Option Addr
 nr:Nat
 cr:Nat
 want:Bool
abbrev dt.lo (m:dt):Value := .slice m.al m.nl m.cl
abbrev dt.hi (m:dt):Value := .slice m.ah m.nh m.ch
abbrev dt.recs (m:dt):Value := .slice m.ar m.nr m.cr
def mZ:List Value:=aZ z32++([.int .i64 0,.int .i64 0,.int .i64 0,.int .i64 0]++(aZ z32 ++ [.slice none 0 0,.int .i64 0,.slice none 0 0,.int .i64 0]))
def mHd (m:dt):List Value := [.int .u8 (m.kind:Int),.int .i64 m.frm,.int .i64 m.to,.int .u64 0,.int .i64 0,.int .i64 0,.slice none 0 0,m.lo,m.hi,.int .i64 m.cnt]
def mC (m:dt):List Value:=mHd m++(aZ m.root++([m.recs,.bool m.want]++mZ))
abbrev mV (m:dt):Value := .agg (mC m).toArray
def zM:List Value := [.int .u8 0,.int .i64 0,.int .i64 0,.int .u64 0,.int .i64 0,.int .i64 0,.slice none 0 0,.slice none 0 0,.slice none 0 0,.int .i64 0]++(aZ z32++([.slice none 0 0,.bool false]++mZ))
theorem mC_ok {m:dt} (hr:fo m.root):(mC m).length=116∧Abs.bj (mC m)=true∧az (mC m)=true:=by
 have d:=bg hr
 have z1:mZ.length=72:=rfl
 have z2:Abs.bj mZ=true:=by decide
 have z3:az mZ=true:=by decide
 refine ⟨?_,?_,?_⟩
 ·unfold mC
  rw [List.length_append,List.length_append,List.length_append,d.1,z1]
  rfl
 ·unfold mC Abs.bj at *
  rw [List.all_append,List.all_append,List.all_append,d.2.1,z2]
  rfl
 ·unfold mC az at *
  rw [List.all_append,List.all_append,List.all_append,d.2.2,z3]
  rfl
theorem mC_hd (m:dt) {i:Nat} {v:Value} (h:(mHd m)[i]? = some v):(mC m)[i]? = some v:=by
 unfold mC
 have hi:i<(mHd m).length:=by
  rcases Nat.lt_or_ge i (mHd m).length with h1|h1
  ·exact h1
  ·rw [List.getElem?_eq_none h1] at h;cases h
 rw [List.getElem?_append_left hi]
 exact h
theorem mC_tl {m:dt} (hr:fo m.root) {j:Nat} {v:Value} (h:([m.recs,.bool m.want]++mZ)[j]? = some v):(mC m)[42+j]? = some v:=by
 unfold mC
 have d:=(bg hr).1
 have l10:(mHd m).length=10:=rfl
 rw [List.getElem?_append_right (by omega),List.getElem?_append_right (by omega),l10,d,show 42+j-10-32=j by omega]
 exact h
structure MLd (h:ab) (b:Nat) (m:dt):Prop where
 l0:ld1 (ptr b 0) h=some (.int .u8 (m.kind:Int),h)
 l1:ld1 (ptr b 1) h=some (.int .i64 m.frm,h)
 l2:ld1 (ptr b 2) h=some (.int .i64 m.to,h)
 l7:ld1 (ptr b 7) h=some (m.lo,h)
 l8:ld1 (ptr b 8) h=some (m.hi,h)
 l9:ld1 (ptr b 9) h=some (.int .i64 m.cnt,h)
 l10:dZ 32 (ptr b 10) h=some (.agg (aZ m.root).toArray,h)
 l42:ld1 (ptr b 42) h=some (m.recs,h)
 l43:ld1 (ptr b 43) h=some (.bool m.want,h)
 all:dZ 116 (ptr b 0) h=some (mV m,h)
theorem m_ld {h:ab} {b:Nat} {m:dt} (hr:fo m.root) (g:h.get b=some (mC m)):MLd h b m:=by
 have ok:=mC_ok hr
 have d:=bg hr
 refine ⟨ba g (mC_hd m rfl) rfl,ba g (mC_hd m rfl) rfl,ba g (mC_hd m rfl) rfl,ba g (mC_hd m rfl) rfl,ba g (mC_hd m rfl) rfl,ba g (mC_hd m rfl) rfl,?_,ba g (mC_tl hr (j:=0) rfl) rfl,ba g (mC_tl hr (j:=1) rfl) rfl,bZ g ok.1 ok.2.1⟩
 have e:((mC m).drop 10).take 32=aZ m.root:=by
  unfold mC
  rw [List.drop_left' (by rfl),List.take_left' d.1]
 have:=ldN_at (o:=10) (n:=32) g (by rw [ok.1];decide) (by rw [e];exact d.2.1)
 rw [e] at this
 exact this
abbrev sumM (al:Option Addr) (nl cl:Nat) (ah:Option Addr) (nh ch n:Nat) (root:List Nat):dt:=⟨4,0,0,al,nl,cl,ah,nh,ch,(n:Int),root,none,0,0,false⟩
theorem bld_sum {al:Option Addr} {nl cl:Nat} {ah:Option Addr} {nh ch n:Nat} {root:List Nat} (hr:fo root):ep zM [(0,1,.int .u8 4),(7,1,.slice al nl cl),(8,1,.slice ah nh ch),(9,1,ai n),(10,32,.agg (aZ root).toArray)]=some (mV (sumM al nl cl ah nh ch n root)):=by
 have e:cG zM [(0,1,.int .u8 4),(7,1,.slice al nl cl),(8,1,.slice ah nh ch),(9,1,ai n),(10,32,.agg (aZ root).toArray)]=cG (mHd (sumM al nl cl ah nh ch n root)++(aZ z32++([.slice none 0 0,.bool false]++mZ))) [(10,32,.agg (aZ root).toArray)]:=rfl
 unfold ep
 rw [e,fill_mid (A:=mHd (sumM al nl cl ah nh ch n root)) (B:=aZ z32) (o:=10) (n:=32) rfl rfl rfl (bg hr).1]
 rfl
theorem is17:cj Tryd.prog 17 Tryd.f17:=⟨by kernel_rfl,by kernel_rfl,by kernel_rfl,by kernel_rfl⟩
theorem is100:cj Tryd.prog 100 Tryd.f100:=⟨by kernel_rfl,by kernel_rfl,by kernel_rfl,by kernel_rfl⟩
theorem is50:cj Tryd.prog 50 Tryd.f50:=⟨by kernel_rfl,by kernel_rfl,by kernel_rfl,by kernel_rfl⟩
theorem agg42:aggT Tryd.prog 42=some true:=by kernel_rfl
theorem siz42:bV Tryd.prog 42=some 116:=by kernel_rfl
theorem results17:Tryd.f17.results.toList = [.cell 6 42]:=by kernel_rfl
theorem bytes_keep {a:Option Addr} {n:Nat} {h h':ab} {l:List Nat} (e:aq a n h=some l) (hk : ∀ y,a=some y→h'.get y.block=h.get y.block):aq a n h'=some l:=by
 rw [←e]
 unfold aq
 congr 1
 cases a with
 |none=>rfl
 |some y=>
  obtain ⟨b,o,s⟩:=y
  have:=hk _ rfl
  unfold aS
  simp only
  rw [this]
set_option maxRecDepth 100000 in
theorem r17 {h:ab} (hG:4≤h.n0) (hz:h.get 3=some bB) {vb:Nat} {va:Value} {R:List ak} (gv:h.get vb=some [va]) (RS:RcS h va R) (nv:nilOk va) (ks:KS R) (vl:Vld R) (hR:R.length≤1000000) {al ah:Option Addr} {nl cl nh ch:Nat} {lo hi:List Nat}
  (hlo:aq al nl h=some lo) (hhi:aq ah nh h=some hi) (hnl:nl≤21000) (hnh:nh≤21000) :
  ∃ al' cl' ah' ch' h',CW 17 [ptr vb 0,.slice al nl cl,.slice ah nh ch] h=some (mV (sumM al' nl cl' ah' nh ch' (R.filter (inR lo hi)).length (fL (R.filter (inR lo hi)))),h')∧Old h h'∧aq al' nl h'=some lo∧aq ah' nh h'=some hi ∧
    (∀ y,al'=some y→h.next≤y.block∧y.block<h'.next)∧(∀ y,ah'=some y→h.next≤y.block∧y.block<h'.next):=by
 obtain ⟨h1,z1,o1,g1,n1⟩:=fresh zM h
 obtain ⟨v2,h2,e2,o2,r2⟩:=r20 (h:=h1) (cl:=cl) (ch:=ch) (by rw [o1.n0];exact hG) (Old.get o1 gv) (RS.mono o1) nv ks hR (Old.bytes o1 hlo) (Old.bytes o1 hhi)
 have O2:=o1.trans o2
 obtain ⟨al',cl',h3,e3,s3,_,o3,p3,_⟩:=r69b (h:=h2) (c:=cl) (by rw [O2.n0];exact hG) (Old.bytes O2 hlo) hnl
 have O3:=O2.trans o3
 obtain ⟨ah',ch',h4,e4,s4,_,o4,p4,_⟩:=r69b (h:=h3) (c:=ch) (by rw [O3.n0];exact hG) (Old.bytes O3 hhi) hnh
 have O4:=O3.trans o4
 have vF : ∀ r∈R.filter (inR lo hi),fA r=true:=fun r hr=>(vl r (List.mem_filter.1 hr).1).2
 have hfl:=List.length_filter_le (inR lo hi) R
 have r4:=(r2.mono o3).mono o4
 obtain ⟨h5,e5,o5⟩:=r54 (h:=h4) (by rw [O4.n0];exact hG) (Old.get O4 hz) r4 vF (by omega)
 have O5:=O4.trans o5
 have hd:=treeV_ok (R.filter (inR lo hi))
 have hll:=r2.len
 generalize fL (R.filter (inR lo hi))=root at *
 generalize (R.filter (inR lo hi)).length=n at *
 have bs:=bld_sum (al:=al') (nl:=nl) (cl:=cl') (ah:=ah') (nh:=nh) (ch:=ch') (n:=n) hd
 have ok:=mC_ok (m:=sumM al' nl cl' ah' nh ch' n root) hd
 obtain ⟨h6,e6,k6,g6,_,n6⟩:=bG (n:=116) (k':=mC (sumM al' nl cl' ah' nh ch' n root)) (Old.get (((o2.trans o3).trans o4).trans o5) g1) (by rw [O5.n0];exact h.ax) rfl ok.1 ok.2.2
 have O6:Old h h6:=Old.bN O5 k6 (Nat.le_refl _)
 refine ⟨al',cl',ah',ch',h6,aG is17 hG rfl ((t17_eq _ _ _ _ _).trans ?_),O6,?_,?_,fun y hy => ?_,fun y hy => ?_⟩
 ·unfold t17
  have z1:fS zM h=some (ptr h.next 0,h1):=z1
  simp -implicitDefEqProofs only [nil25,ad,af]
  refine (congrArg (fun o=>aa o _) z1).trans ?_
  simp -implicitDefEqProofs only [e2,e3,e4,hll,e5,ad,af]
  refine (congrArg (fun o=>aa (pu o _) _) bs).trans ?_
  simp -implicitDefEqProofs only [e6,ad,af]
  refine gf results17 agg42 siz42 (by decide) _ ?_
  exact bZ g6 ok.1 ok.2.1
 ·refine bytes_keep (Old.bytes (o4.trans o5) s3) fun y hy=>k6.get _ ?_ ?_
  ·have:=p3 y hy
   have:=o4.next;have:=o5.next
   omega
  ·have:=p3 y hy
   have:=O2.next
   have:=o2.next
   intro q
   have q:y.block=h.next:=q
   omega
 ·refine bytes_keep (Old.bytes o5 s4) fun y hy=>k6.get _ ?_ ?_
  ·have:=p4 y hy
   have:=o5.next
   omega
  ·have:=p4 y hy
   have:=O3.next
   have:=o2.next;have:=o3.next
   intro q
   have q:y.block=h.next:=q
   omega
 ·have:=p3 y hy
  have:=o3.next;have:=O2.next;have:=o4.next;have:=o5.next
  omega
 ·have:=p4 y hy
  have:=O3.next;have:=o5.next
  omega
end Go.Proofs.YtdnahgfgoajmcaaDoor

namespace Go.Proofs.YtdnahgfgoajmcaaDoor
open Go Go.Abs
attribute [local congr] aj
theorem r57L {h:ab} (hG:4≤h.n0) {v:Value} {L:List ak} (x:RcS h v L) (hn:nilOk v) (hl:L.length≤1000000) : ∃ v' h',CW 57 [v] h=some (v',h')∧Old h h'∧fF 39 h' h.next v' L.length (aY L):=by
 rcases hn with rfl|⟨a,n,c,rfl,_⟩
 ·have hL:L = []:=by
   obtain ⟨_,a,d,e,_⟩:=x
   injection e with _ e1 _
   exact List.length_eq_zero_iff.1 e1.symm
  subst hL
  refine ⟨.slice none 0 0,h,aG is57 hG rfl ((t57_eq _ _ _).trans ?_),Kept.refl _ _,fF.nil 39 h h.next⟩
  unfold t57
  simp -implicitDefEqProofs only [nilT22,ad,af]
 ·have o1:Old h (h.alloc []):=Kept.alloc _ _ _
  have r0:fk (h.alloc []) h.next (.slice (some ⟨h.next,0,none⟩) 0 0) []:=⟨(fun _ h=>by cases h),h.next,none,rfl,by rw [ab.aH,if_pos rfl];rfl,Nat.le_refl _,.inl ⟨rfl,rfl⟩⟩
  obtain ⟨v',h',e,r,k,_⟩:=r0.pushL (x.mono o1) (by rw [o1.n0];exact h.ax) o1.next (by decide) hl
  rw [List.nil_append] at r
  have b0:du 39 (.agg zrC.toArray) 0 [] h=some (.slice (some ⟨h.next,0,none⟩) 0 0,h.alloc []):=rfl
  refine ⟨v',h',aG is57 hG rfl ((t57_eq _ _ _).trans ?_),Old.bN o1 k (Nat.le_refl _),?_⟩
  ·unfold t57
   simp -implicitDefEqProofs only [nilS22,ad,af]
   refine (congrArg (fun o=>aa o _) b0).trans ?_
   simp -implicitDefEqProofs only [e,ad,af]
  ·obtain ⟨hw,b,s,rfl,g1,g2,g3⟩:=r
   have ok:=recsC_ok hw
   refine ⟨cZ hw,ok.1,ok.2,.inr ⟨b,s,rfl,g1,g2,?_⟩⟩
   rcases g3 with ⟨q,rfl⟩|⟨q,rfl⟩
   ·exact .inl ⟨by rw [q];rfl,rfl⟩
   ·exact .inr ⟨List.length_pos_iff.2 q,rfl⟩
theorem fF.rc {h:ab} {N:Nat} {v:Value} {L:List ak} (x:fF 39 h N v L.length (aY L)) (hw : ∀ r∈L,ak.Wf r):RcS h v L:=by
 rcases x.form with ⟨h0,rfl⟩|⟨b,s,rfl,g,_⟩
 ·have:L = []:=List.length_eq_zero_iff.1 h0
  subst this
  exact ⟨(fun _ h=>by cases h),none,0,rfl,(fun _=>rfl),eF (P := []) (fun _ h=>by cases h),fun h=>absurd h (Nat.lt_irrefl 0)⟩
 ·exact RcS.of_blk hw rfl g
theorem fF.nok {h:ab} {N:Nat} {v:Value} {n:Nat} {cs:List Value} (x:fF 39 h N v n cs):nilOk v:=by
 rcases x.form with ⟨rfl,rfl⟩|⟨b,s,rfl,g,_,q⟩
 ·exact .inl rfl
 ·refine .inr ⟨_,_,_,rfl,Nat.le_refl _,fun t e => ?_⟩
  have e:s=some t:=e
  rcases q with ⟨_,rfl⟩|⟨_,rfl⟩
  ·cases e
  ·exact (Option.some.inj e).symm
theorem r20L {h:ab} (hG:4≤h.n0) {vb:Nat} {va:Value} {R:List ak} (gv:h.get vb=some [va]) (RS:RcS h va R) (nv:nilOk va) (ks:KS R) (hR:R.length≤1000000) {al ah:Option Addr} {nl cl nh ch:Nat} {lo hi:List Nat} (hlo:aq al nl h=some lo) (hhi:aq ah nh h=some hi) :
  ∃ v' h',CW 20 [ptr vb 0,.slice al nl cl,.slice ah nh ch] h=some (v',h')∧Old h h'∧fF 39 h' h.next v' (R.filter (inR lo hi)).length (aY (R.filter (inR lo hi))) ∧ ∀ r∈R.filter (inR lo hi),ak.Wf r:=by
 obtain ⟨k1,h1,e1,o1,a1,a2,a3⟩:=r56 (c:=cl) hG gv RS.rsl ks hR hlo
 have lv : ∀ g,Old h g→ld1 (ptr vb 0) g=some (va,g):=fun g og=>ba (Old.get og gv) rfl (hole_nil nv)
 have hll:=RS.rsl.len
 have cv : ∀ g,cm true (some (va,g)) va=true:=fun g=>by
  rcases nv with rfl|⟨a,n,c,rfl,_⟩<;>exact chk_sl2 ..
 have hlen:=(aD hhi).1
 have gtr0:bin Tryd.prog .gtr 3 (ai nh) (.int .i64 0)=some (.bool (decide (0<nh))):=gtrC nh 0 0 rfl
 have hnh : ∀ n c:Nat,∀ a:Option Addr,cx (.slice a n c)=some (ai n):=fun _ _ _=>rfl
 have wf : ∀ r∈R.filter (inR lo hi),ak.Wf r:=fun r hr=>RS.1 r (List.mem_filter.1 hr).1
 by_cases h0:0<nh
 ·obtain ⟨k2,h2,e2,o2,b1,b2,b3⟩:=r56 (h:=h1) (c:=ch) (by rw [o1.n0];exact hG) (Old.get o1 gv) (RS.mono o1).rsl ks hR (Old.bytes o1 hhi)
  have O2:=o1.trans o2
  obtain ⟨v3,s3,r3,n3⟩:=(RS.mono O2).part nv (i:=k1) (j:=max k1 k2) (by omega) (by omega)
  obtain ⟨v4,h4,e4,o4,r4⟩:=r57L (h:=h2) (by rw [O2.n0];exact hG) r3 n3 (by rw [List.length_drop,List.length_take];omega)
  refine ⟨v4,h4,aG is20 hG rfl ((t20_eq _ _ _ _ _).trans ?_),O2.trans o4,?_,wf⟩
  ·unfold t20
   simp -implicitDefEqProofs only [nil25,e1,bh,aA,Nat.zero_add,lv h1 o1,lv h (Kept.refl _ _),hll,cv,af,chk_int,Bool.and_true,hnh,gtr0,decide_eq_true h0,e2,max3,lv h2 O2,s3,e4,ad]
  ·have:(R.take (max k1 k2)).drop k1=R.filter (inR lo hi):=by
    refine cut_filter (by omega) (by omega) (fun k hk q1 q2 => ?_) (fun k hk q => ?_)
    ·have p1:=a3 k hk q1
     have p2:=b2 k hk (by omega)
     unfold inR
     rw [decide_eq_true p1,decide_eq_true p2,Bool.or_true]
     rfl
    ·unfold inR
     rcases q with q|q
     ·have:=a2 k hk q
      rw [decide_eq_false (by omega : ¬0≤cmpB R[k] lo),Bool.false_and]
     ·have p:=b3 k hk (by omega)
      have hne:hi ≠ []:=fun e=>by rw [e] at hlen;rw [List.length_nil] at hlen;omega
      rw [decide_eq_false hne,decide_eq_false (by omega : ¬cmpB R[k] hi<0),Bool.or_false,Bool.and_false]
   rw [←this]
   obtain ⟨x1,x2,x3,x4⟩:=r4
   refine ⟨x1,x2,x3,?_⟩
   rcases x4 with q|⟨b,s,q1,q2,q3,q4⟩
   ·exact .inl q
   ·exact .inr ⟨b,s,q1,q2,Nat.le_trans O2.next q3,q4⟩
 ·obtain ⟨v3,s3,r3,n3⟩:=(RS.mono o1).part nv (i:=k1) (j:=R.length) a1 (Nat.le_refl _)
  obtain ⟨v4,h4,e4,o4,r4⟩:=r57L (h:=h1) (by rw [o1.n0];exact hG) r3 n3 (by rw [List.length_drop,List.length_take];omega)
  refine ⟨v4,h4,aG is20 hG rfl ((t20_eq _ _ _ _ _).trans ?_),o1.trans o4,?_,wf⟩
  ·unfold t20
   simp -implicitDefEqProofs only [nil25,e1,bh,aA,Nat.zero_add,lv h1 o1,lv h (Kept.refl _ _),hll,cv,af,chk_int,Bool.and_true,hnh,gtr0,decide_eq_false h0,s3,e4,ad]
  ·have:(R.take R.length).drop k1=R.filter (inR lo hi):=by
    have hnil:hi = []:=List.length_eq_zero_iff.1 (by omega)
    refine cut_filter a1 (Nat.le_refl _) (fun k hk q1 q2 => ?_) (fun k hk q => ?_)
    ·have p1:=a3 k hk q1
     unfold inR
     rw [decide_eq_true p1,decide_eq_true hnil]
     rfl
    ·unfold inR
     rcases q with q|q
     ·have:=a2 k hk q
      rw [decide_eq_false (by omega : ¬0≤cmpB R[k] lo),Bool.false_and]
     ·omega
   rw [←this]
   obtain ⟨x1,x2,x3,x4⟩:=r4
   refine ⟨x1,x2,x3,?_⟩
   rcases x4 with q|⟨b,s,q1,q2,q3,q4⟩
   ·exact .inl q
   ·exact .inr ⟨b,s,q1,q2,Nat.le_trans o1.next q3,q4⟩
end Go.Proofs.YtdnahgfgoajmcaaDoor

namespace Go.Proofs.YtdnahgfgoajmcaaDoor
open Go Go.Abs
attribute [local congr] aj
structure AM where
 kind:Nat
 frm:Int
 to:Int
 lo:List Nat
 hi:List Nat
 cnt:Int
 root:List Nat
 L:List ak
 want:Bool
structure MIs (g:ab) (m:dt) (x:AM):Prop where
 kind:m.kind=x.kind
 frm:m.frm=x.frm
 to:m.to=x.to
 cnt:m.cnt=x.cnt
 root:m.root=x.root
 want:m.want=x.want
 d32:fo x.root
 lo:aq m.al m.nl g=some x.lo
 hi:aq m.ah m.nh g=some x.hi
 rs:RcS g m.recs x.L
structure MOwn (g:ab) (N:Nat) (m:dt) (n:Nat) (cs:List Value):Prop where
 lo : ∀ y,m.al=some y→N≤y.block∧y.block<g.next
 hi : ∀ y,m.ah=some y→N≤y.block∧y.block<g.next
 rs:fF 39 g N m.recs n cs
theorem MIs.bM {g g':ab} {m:dt} {x:AM} (h:MIs g m x) (o:Old g g'):MIs g' m x:=
 ⟨h.kind,h.frm,h.to,h.cnt,h.root,h.want,h.d32,Old.bytes o h.lo,Old.bytes o h.hi,h.rs.mono o⟩
theorem MOwn.bM {g g':ab} {N n:Nat} {m:dt} {cs:List Value} (h:MOwn g N m n cs) (o:Old g g'):MOwn g' N m n cs:=
 ⟨fun y e=>⟨(h.lo y e).1,Nat.lt_of_lt_of_le (h.lo y e).2 o.next⟩,fun y e=>⟨(h.hi y e).1,Nat.lt_of_lt_of_le (h.hi y e).2 o.next⟩,h.rs.bM o⟩
theorem MOwn.weak {g:ab} {N M n:Nat} {m:dt} {cs:List Value} (h:MOwn g N m n cs) (hM:M≤N):MOwn g M m n cs:=
 ⟨fun y e=>⟨Nat.le_trans hM (h.lo y e).1,(h.lo y e).2⟩,fun y e=>⟨Nat.le_trans hM (h.hi y e).1,(h.hi y e).2⟩,h.rs.weak hM⟩
def sumA (S:List ak) (lo hi:List Nat):AM:=⟨4,0,0,lo,hi,((S.filter (inR lo hi)).length:Int),fL (S.filter (inR lo hi)),[],false⟩
def itemsA (lo hi:List Nat) (L:List ak) (w:Bool):AM:=⟨5,0,0,lo,hi,0,z32,L,w⟩
theorem nil_rc (h:ab):RcS h (.slice none 0 0) []:=⟨(fun _ h=>by cases h),none,0,rfl,(fun _=>rfl),eF (P := []) (fun _ h=>by cases h),fun h=>absurd h (Nat.lt_irrefl 0)⟩
theorem r17M {h:ab} (hG:4≤h.n0) (hz:h.get 3=some bB) {vb:Nat} {va:Value} {R:List ak} (gv:h.get vb=some [va]) (RS:RcS h va R) (nv:nilOk va) (ks:KS R) (vl:Vld R) (hR:R.length≤1000000) {al ah:Option Addr} {nl cl nh ch:Nat} {lo hi:List Nat}
  (hlo:aq al nl h=some lo) (hhi:aq ah nh h=some hi) (hnl:nl≤21000) (hnh:nh≤21000) :
  ∃ m h',CW 17 [ptr vb 0,.slice al nl cl,.slice ah nh ch] h=some (mV m,h')∧Old h h'∧MIs h' m (sumA R lo hi)∧MOwn h' h.next m 0 []:=by
 obtain ⟨al',cl',ah',ch',h',e,o,s1,s2,p1,p2⟩:=r17 (cl:=cl) (ch:=ch) hG hz gv RS nv ks vl hR hlo hhi hnl hnh
 exact ⟨_,h',e,o,⟨rfl,rfl,rfl,rfl,rfl,rfl,treeV_ok _,s1,s2,nil_rc h'⟩,⟨p1,p2,fF.nil 39 h' h.next⟩⟩
theorem is129:cj Tryd.prog 129 Tryd.f129:=⟨by kernel_rfl,by kernel_rfl,by kernel_rfl,by kernel_rfl⟩
theorem results129:Tryd.f129.results.toList = [.cell 6 42]:=by kernel_rfl
theorem bld_items {al:Option Addr} {nl cl:Nat} {ah:Option Addr} {nh ch:Nat} {ar:Option Addr} {nr cr:Nat} {w:Bool}:ep zM [(0,1,.int .u8 5),(7,1,.slice al nl cl),(8,1,.slice ah nh ch),(42,1,.slice ar nr cr),(43,1,.bool w)]=some (mV ⟨5,0,0,al,nl,cl,ah,nh,ch,0,z32,ar,nr,cr,w⟩):=rfl
theorem z32_d:fo z32:=z32_ok
set_option maxRecDepth 100000 in
theorem r129 {h:ab} (hG:4≤h.n0) {m:dt} {x:AM} (M:MIs h m x) {v:Value} {L:List ak} (hv:RcS h v L) (nv:nilOk v) (hL:L.length≤1000000) (w:Bool) (hnl:m.nl≤21000) (hnh:m.nh≤21000) :
  ∃ m' h',CW 129 [mV m,v,.bool w] h=some (mV m',h')∧Old h h'∧MIs h' m' (itemsA x.lo x.hi L w)∧MOwn h' h.next m' L.length (aY L):=by
 have hd:fo m.root:=by rw [M.root];exact M.d32
 have ok:=mC_ok hd
 have b1:box (mV m) h=some (ptr h.next 0,h.alloc (mC m)):=box_at h _ ok.2.2
 have o1:Old h (h.alloc (mC m)):=Kept.alloc _ _ _
 have g1:(h.alloc (mC m)).get h.next=some (mC m):=by rw [ab.aH,if_pos rfl]
 have n1:(h.alloc (mC m)).next=h.next+1:=rfl
 generalize h.alloc (mC m)=h1 at *
 obtain ⟨h2,z2,o2,g2,n2⟩:=fresh zM h1
 have O2:=o1.trans o2
 obtain ⟨al',cl',h3,e3,s3,_,o3,p3,_⟩:=r69b (h:=h2) (c:=m.cl) (by rw [O2.n0];exact hG) (Old.bytes O2 M.lo) hnl
 have O3:=O2.trans o3
 obtain ⟨ah',ch',h4,e4,s4,_,o4,p4,_⟩:=r69b (h:=h3) (c:=m.ch) (by rw [O3.n0];exact hG) (Old.bytes O3 M.hi) hnh
 have O4:=O3.trans o4
 obtain ⟨v5,h5,e5,o5,r5⟩:=r57L (h:=h4) (by rw [O4.n0];exact hG) (hv.mono O4) nv hL
 have O5:=O4.trans o5
 have L2:=m_ld hd (Old.get o2 g1)
 have L3:=m_ld hd (Old.get (o2.trans o3) g1)
 obtain ⟨ar,nr,cr,rfl⟩ : ∃ ar nr cr,v5 = .slice ar nr cr:=by
  rcases r5.wform with rfl|⟨b,s,n,rfl⟩
  ·exact ⟨_,_,_,rfl⟩
  ·exact ⟨_,_,_,rfl⟩
 have bi:=bld_items (al:=al') (nl:=m.nl) (cl:=cl') (ah:=ah') (nh:=m.nh) (ch:=ch') (ar:=ar) (nr:=nr) (cr:=cr) (w:=w)
 have ok2:=mC_ok (m:=⟨5,0,0,al',m.nl,cl',ah',m.nh,ch',0,z32,ar,nr,cr,w⟩) z32_d
 obtain ⟨h6,e6,k6,g6,_,n6⟩:=bG (n:=116) (k':=mC ⟨5,0,0,al',m.nl,cl',ah',m.nh,ch',0,z32,ar,nr,cr,w⟩) (Old.get ((o3.trans o4).trans o5) g2) (by rw [O5.n0];exact Nat.le_trans h.ax o1.next) rfl ok2.1 ok2.2.2
 have O6:Old h h6:=Old.bN O5 k6 o1.next
 have w5:=hv.1
 have q2:=o2.next
 have q3:=o3.next
 have q4:=o4.next
 have q5:=o5.next
 refine ⟨⟨5,0,0,al',m.nl,cl',ah',m.nh,ch',0,z32,ar,nr,cr,w⟩,h6,aG is129 hG rfl ((t129_eq _ _ _ _ _).trans ?_),O6,⟨rfl,rfl,rfl,rfl,rfl,rfl,z32_d,?_,?_,?_⟩,⟨fun y hy => ?_,fun y hy => ?_,?_⟩⟩
 ·unfold t129
  simp -implicitDefEqProofs only [b1,ad,af]
  refine (congrArg (fun o=>aa o _) z2).trans ?_
  simp -implicitDefEqProofs only [aA,Nat.zero_add,L2.l7,e3,L3.l8,L2.l8,e4,e5,chk_sl2,Bool.and_true,ad,af]
  refine (congrArg (fun o=>aa (pu o _) _) bi).trans ?_
  simp -implicitDefEqProofs only [e6,ad,af]
  refine gf results129 agg42 siz42 (by decide) _ ?_
  exact bZ g6 ok2.1 ok2.2.1
 ·refine bytes_keep (Old.bytes (o4.trans o5) s3) fun y hy=>k6.get _ ?_ ?_
  ·have:=p3 y hy
   omega
  ·have:=p3 y hy
   intro q
   have q:y.block=h1.next:=q
   omega
 ·refine bytes_keep (Old.bytes o5 s4) fun y hy=>k6.get _ ?_ ?_
  ·have:=p4 y hy
   omega
  ·have:=p4 y hy
   intro q
   have q:y.block=h1.next:=q
   omega
 ·refine (r5.rc w5).keepS k6 fun q => ?_
  have:=r5.bL (b:=h1.next) (by
   rcases r5.wform with e|⟨b,s,n,e⟩
   ·cases e;cases q
   ·cases e
    cases nr with
    |zero=>cases q
    |succ n=>cases q;rfl)
  omega
 ·have:=p3 y hy
  have:=O2.next
  omega
 ·have:=p4 y hy
  have:=O3.next
  omega
 ·refine (r5.weak O4.next).eW k6 fun b q r => ?_
  have:=r5.bL q
  have r:b=h1.next:=r
  omega
end Go.Proofs.YtdnahgfgoajmcaaDoor

namespace Go.Proofs.YtdnahgfgoajmcaaDoor
open Go Go.Abs
attribute [local congr] aj
abbrev zML:List Value := [(.int .u8 0),(.int .i64 0),(.int .i64 0),(.int .u64 0),(.int .i64 0),(.int .i64 0),(.slice none 0 0),(.slice none 0 0),(.slice none 0 0),(.int .i64 0),(.int .u8 0),(.int .u8 0),(.int .u8 0),(.int .u8 0),(.int .u8 0),(.int .u8 0),(.int .u8 0),(.int .u8 0),(.int .u8 0),(.int .u8 0),(.int .u8 0),(.int .u8 0),(.int .u8 0),(.int .u8 0),(.int .u8 0),(.int .u8 0),(.int .u8 0),(.int .u8 0),(.int .u8 0),(.int .u8 0),(.int .u8 0),(.int .u8 0),(.int .u8 0),(.int .u8 0),(.int .u8 0),(.int .u8 0),(.int .u8 0),(.int .u8 0),(.int .u8 0),(.int .u8 0),(.int .u8 0),(.int .u8 0),(.slice none 0 0),(.bool false),(.int .u8 0),(.int .u8 0),(.int .u8 0),(.int .u8 0),(.int .u8 0),(.int .u8 0),(.int .u8 0),(.int .u8 0),(.int .u8 0),(.int .u8 0),(.int .u8 0),(.int .u8 0),(.int .u8 0),(.int .u8 0),(.int .u8 0),(.int .u8 0),(.int .u8 0),(.int .u8 0),(.int .u8 0),(.int .u8 0),(.int .u8 0),(.int .u8 0),(.int .u8 0),(.int .u8 0),(.int .u8 0),(.int .u8 0),(.int .u8 0),(.int .u8 0),(.int .u8 0),(.int .u8 0),(.int .u8 0),(.int .u8 0),(.int .i64 0),(.int .i64 0),(.int .i64 0),(.int .i64 0),(.int .u8 0),(.int .u8 0),(.int .u8 0),(.int .u8 0),(.int .u8 0),(.int .u8 0),(.int .u8 0),(.int .u8 0),(.int .u8 0),(.int .u8 0),(.int .u8 0),(.int .u8 0),(.int .u8 0),(.int .u8 0),(.int .u8 0),(.int .u8 0),(.int .u8 0),(.int .u8 0),(.int .u8 0),(.int .u8 0),(.int .u8 0),(.int .u8 0),(.int .u8 0),(.int .u8 0),(.int .u8 0),(.int .u8 0),(.int .u8 0),(.int .u8 0),(.int .u8 0),(.int .u8 0),(.int .u8 0),(.int .u8 0),(.slice none 0 0),(.int .i64 0),(.slice none 0 0),(.int .i64 0)]
def msC (ms:List dt):List Value:=ms.flatMap mC
def MBel (b:Nat) (m:dt):Prop:=(∀ y,m.al=some y→y.block<b)∧(∀ y,m.ah=some y→y.block<b) ∧ ∀ c,gsB m.recs=some c→c<b
theorem MOwn.bel {g:ab} {N n:Nat} {m:dt} {cs:List Value} (h:MOwn g N m n cs):MBel g.next m:=⟨fun y e=>(h.lo y e).2,fun y e=>(h.hi y e).2,fun _ e=>(h.rs.bL e).2⟩
theorem MBel.up {b c:Nat} {m:dt} (h:MBel b m) (hc:b≤c):MBel c m:=⟨fun y e=>Nat.lt_of_lt_of_le (h.1 y e) hc,fun y e=>Nat.lt_of_lt_of_le (h.2.1 y e) hc,fun d e=>Nat.lt_of_lt_of_le (h.2.2 d e) hc⟩
def MsS (g:ab) (N:Nat) (w:Value) (ms:List dt):Prop:=(w = .slice none 0 0∧ms = []) ∨ ∃ b s,w = .slice (some ⟨b,0,s⟩) ms.length ms.length∧g.get b=some (msC ms)∧N≤b ∧ ∀ m∈ms,MBel b m
structure Ans (g:ab) (N:Nat) (w:Value) (ms:List dt) (xs:List AM):Prop where
 sl:MsS g N w ms
 len:ms.length=xs.length
 is : ∀ i (h:i<ms.length) (h':i<xs.length),MIs g ms[i] xs[i]
 own : ∀ i (h:i<ms.length) (h':i<xs.length),MOwn g N ms[i] xs[i].L.length (aY xs[i].L)
theorem bsl_msg {m:dt} (hd:fo m.root) (q:ab):du 116 (.agg zML.toArray) 1 [(0,mV m)] q=some (.slice (some ⟨q.next,0,none⟩) 1 1,q.alloc (mC m)):=by
 have ok:=mC_ok hd
 have e1:cG zM [(0*116,116,mV m)]=some (mC m):=by
  rw [fill_mid (z:=zM) (A := []) (B:=zM) (C := []) (o:=0*116) (n:=116) (by simp) rfl rfl ok.1]
  simp [cG]
 have e2:az ([(0,mV m)].flatMap fun x:Nat×Value=>x.2.cells.toList)=true:=by
  show az ((mC m).toArray.toList ++ [])=true
  rw [List.append_nil]
  exact ok.2.2
 unfold du
 rw [e2]
 exact (congrArg (fun o:Option (List Value)=>match o with|some cs=>some (Value.slice (some ⟨q.next,0,none⟩) 1 1,q.alloc cs)|none=>none) e1:_)
theorem bsl_msg2 {m n:dt} (hd:fo m.root) (hn:fo n.root) (q:ab):du 116 (.agg zML.toArray) 2 [(0,mV m),(1,mV n)] q=some (.slice (some ⟨q.next,0,none⟩) 2 2,q.alloc (mC m++mC n)):=by
 have ok:=mC_ok hd
 have ok2:=mC_ok hn
 have e1:cG (zM++(zM ++ [])) [(0*116,116,mV m),(1*116,116,mV n)]=some (mC m++mC n):=by
  rw [fill_mid (z:=zM++(zM ++ [])) (A := []) (B:=zM) (C:=zM ++ []) (o:=0*116) (n:=116) rfl rfl rfl ok.1]
  rw [List.nil_append,fill_mid (z:=mC m++(zM ++ [])) (A:=mC m) (B:=zM) (C := []) (o:=1*116) (n:=116) rfl ok.1 rfl ok2.1]
  simp [cG]
 have e2:az ([(0,mV m),(1,mV n)].flatMap fun x:Nat×Value=>x.2.cells.toList)=true:=by
  show az ((mC m).toArray.toList++((mC n).toArray.toList ++ []))=true
  have h1:=ok.2.2
  have h2:=ok2.2.2
  unfold az at *
  simp only [List.all_append,h1,h2]
  rfl
 unfold du
 rw [e2]
 exact (congrArg (fun o:Option (List Value)=>match o with|some cs=>some (Value.slice (some ⟨q.next,0,none⟩) 2 2,q.alloc cs)|none=>none) e1:_)
def fG (S:List ak) (x:AM):List AM:=
 let l:=S.filter (inR x.lo x.hi)
 if (decide ((l.length:Int)=x.cnt)&&decide (fL l=x.root))=true then []
 else if l.length≤8 then [itemsA x.lo x.hi l true]
 else [sumA S x.lo (keyB (l.getD (l.length/2) ak.z)),sumA S (keyB (l.getD (l.length/2) ak.z)) x.hi]
theorem quo2 {n:Nat} (h:n≤1000000):bin Tryd.prog .quo 3 (ai n) (.int .i64 2)=some (ai (n/2)):=by
 unfold ai
 rw [bin_quo (P:=Tryd.prog) (t:=3) (k := .i64) (a:=(n:Int)) (b:=2) (by decide),show ((n:Int).tdiv 2)=((n/2:Nat):Int) from rfl,wrap_i64 (by omega) (by omega)]
theorem eqDD2 {a b:List Nat} (wa:fo a) (wb:fo b):bin Tryd.prog .eql 35 (.agg (aZ a).toArray) (.agg (aZ b).toArray)=some (.bool (decide (a=b))):=eqD35 wa wb
set_option maxRecDepth 100000 in
set_option maxHeartbeats 1000000 in
theorem r100 {h:ab} (hG:4≤h.n0) (hz:h.get 3=some bB) {vb:Nat} {va:Value} {R:List ak} (gv:h.get vb=some [va]) (RS:RcS h va R) (nv:nilOk va) (ks:KS R) (vl:Vld R) (hR:R.length≤1000000) {m:dt} {x:AM} (X:MIs h m x) (hnl:m.nl≤20000) (hnh:m.nh≤20000) :
  ∃ w ms h',CW 100 [ptr vb 0,mV m] h=some (w,h')∧Old h h'∧Ans h' h.next w ms (fG R x):=by
 have hd:fo m.root:=by rw [X.root];exact X.d32
 have ok:=mC_ok hd
 have b1:box (mV m) h=some (ptr h.next 0,h.alloc (mC m)):=box_at h _ ok.2.2
 have o1:Old h (h.alloc (mC m)):=Kept.alloc _ _ _
 have g1:(h.alloc (mC m)).get h.next=some (mC m):=by rw [ab.aH,if_pos rfl]
 generalize h.alloc (mC m)=h1 at *
 have M:=fun g (og:Old h1 g)=>m_ld hd (Old.get og g1)
 have wl : ∀ g,Old h g→aq m.al m.nl g=some x.lo:=fun g og=>Old.bytes og X.lo
 have wh : ∀ g,Old h g→aq m.ah m.nh g=some x.hi:=fun g og=>Old.bytes og X.hi
 obtain ⟨m2,h2,e2,o2,X2,W2⟩:=r17M (h:=h1) (cl:=m.cl) (ch:=m.ch) (by rw [o1.n0];exact hG) (Old.get o1 hz) (Old.get o1 gv) (RS.mono o1) nv ks vl hR (wl h1 o1) (wh h1 o1) (by omega) (by omega)
 have O2:=o1.trans o2
 have hd2:fo m2.root:=by rw [X2.root];exact X2.d32
 obtain ⟨h3,z3,o3,g3,n3⟩:=fresh zM h2
 have ok2:=mC_ok hd2
 obtain ⟨h4,e4,k4,g4,_,n4⟩:=bG (n:=116) (k':=mC m2) g3 (by rw [(O2.trans o3).n0];exact Nat.le_trans h.ax O2.next) rfl ok2.1 ok2.2.2
 have o4:Old h2 h4:=Old.bN o3 k4 (Nat.le_refl _)
 have O4:=O2.trans o4
 obtain ⟨v5,h5,e5,o5,r5,w5⟩:=r20L (h:=h4) (cl:=m.cl) (ch:=m.ch) (by rw [O4.n0];exact hG) (Old.get O4 gv) (RS.mono O4) nv ks hR (wl h4 O4) (wh h4 O4)
 have O5:=O4.trans o5
 have S:=m_ld hd2 (Old.get o5 g4)
 have M1:=M h1 (Kept.refl _ _)
 have M4:=M h4 (o2.trans o4)
 have M5:=M h5 ((o2.trans o4).trans o5)
 have q9:ld1 (ptr h2.next 9) h5=some (.int .i64 ((R.filter (inR x.lo x.hi)).length:Int),h5):=by
  have:=S.l9
  rw [X2.cnt] at this
  exact this
 have q10:dZ 32 (ptr h2.next 10) h5=some (.agg (aZ (fL (R.filter (inR x.lo x.hi)))).toArray,h5):=by
  have:=S.l10
  rw [X2.root] at this
  exact this
 have l9:ld1 (ptr h.next 9) h5=some (.int .i64 x.cnt,h5):=by rw [←X.cnt];exact M5.l9
 have l10:dZ 32 (ptr h.next 10) h5=some (.agg (aZ x.root).toArray,h5):=by rw [←X.root];exact M5.l10
 have ll5:=r5.cx
 have hfl:=List.length_filter_le (inR x.lo x.hi) R
 have rep:fG R x=if (decide (((R.filter (inR x.lo x.hi)).length:Int)=x.cnt)&&decide (fL (R.filter (inR x.lo x.hi))=x.root))=true then [] else if (R.filter (inR x.lo x.hi)).length≤8 then [itemsA x.lo x.hi (R.filter (inR x.lo x.hi)) true] else [sumA R x.lo (keyB ((R.filter (inR x.lo x.hi)).getD ((R.filter (inR x.lo x.hi)).length/2) ak.z)),sumA R (keyB ((R.filter (inR x.lo x.hi)).getD ((R.filter (inR x.lo x.hi)).length/2) ak.z)) x.hi]:=rfl
 have dT:=treeV_ok (R.filter (inR x.lo x.hi))
 have vS : ∀ r∈R.filter (inR x.lo x.hi),ak.Wf r:=w5
 generalize (R.filter (inR x.lo x.hi))=l at *
 have key : ∃ out:Out,t100 CW (ptr vb 0) (mV m) h=out ∧ ∃ w ms h',out=some (w,h')∧Old h h'∧Ans h' h.next w ms (fG R x):=by
  refine ⟨_,rfl,?_⟩
  unfold t100
  simp -implicitDefEqProofs only [b1,aA,Nat.zero_add,M1.l7,M1.l8,e2,ad,af]
  have z3:fS zML h2=some (ptr h2.next 0,h3):=z3
  simp -implicitDefEqProofs only [z3,e4,aA,Nat.zero_add,M4.l7,M4.l8,e5,q9,l9,eqI,ad,af]
  have nil_ok:Ans h5 h.next (.slice none 0 0) [] []:=⟨.inl ⟨rfl,rfl⟩,rfl,fun i h=>absurd h (Nat.not_lt_zero i),fun i h=>absurd h (Nat.not_lt_zero i)⟩
  have e35:=eqDD2 dT X.d32
  generalize decide (fL l=x.root)=q at *
  generalize decide ((l.length:Int)=x.cnt)=p at *
  have hn0:=h.ax
  by_cases hq:(p&&q)=true
  ·rw [if_pos hq] at rep
   rw [rep]
   rw [Bool.and_eq_true] at hq
   obtain ⟨rfl,rfl⟩:=hq
   simp -implicitDefEqProofs only [bt,aW,aA,q10,l10,e35,if_true,ad,af]
   exact ⟨_,[],h5,rfl,O5,nil_ok⟩
  ·rw [if_neg hq] at rep
   by_cases h8:l.length≤8
   ·rw [if_pos h8] at rep
    rw [rep]
    obtain ⟨m6,h6,e6,o6,X6,W6⟩:=r129 (h:=h5) (by rw [O5.n0];exact hG) (X.bM O5) (r5.rc w5) r5.nok (by omega) true (by omega) (by omega)
    have O6:=O5.trans o6
    have hd6:fo m6.root:=by rw [X6.root];exact X6.d32
    have e7:=bsl_msg hd6 h6
    have o7:Old h6 (h6.alloc (mC m6)):=Kept.alloc _ _ _
    have g7:(h6.alloc (mC m6)).get h6.next=some (mC m6):=by rw [ab.aH,if_pos rfl]
    generalize h6.alloc (mC m6)=h7 at *
    have A:Ans h7 h.next (.slice (some ⟨h6.next,0,none⟩) 1 1) [m6] [itemsA x.lo x.hi l true]:=by
     refine ⟨.inr ⟨h6.next,none,rfl,by rw [g7];simp [msC],O6.next,fun m hm=>by rw [List.mem_singleton.1 hm];exact W6.bel⟩,rfl,fun i hi hi' => ?_,fun i hi hi' => ?_⟩
     ·obtain rfl:i=0:=by have:i<1:=hi;omega
      exact X6.bM o7
     ·obtain rfl:i=0:=by have:i<1:=hi;omega
      exact (W6.bM o7).weak O5.next
    have fin : ∃ w ms h',(some (Value.slice (some ⟨h6.next,0,none⟩) 1 1,h7):Out)=some (w,h')∧Old h h'∧Ans h' h.next w ms [itemsA x.lo x.hi l true]:=⟨_,_,_,rfl,O6.trans o7,A⟩
    cases p<;>cases q
    all_goals first
     |exact absurd rfl hq
     | (simp -implicitDefEqProofs only [bt,bf',aW,bc,aA,q10,l10,e35,if_true,Bool.false_eq_true,if_false,ll5,leq3 l.length 8 8 rfl,decide_eq_true h8,M5.all,e6,e7,ad,af]
        exact fin)
   ·rw [if_neg h8] at rep
    rw [rep]
    have hlt:l.length/2<l.length:=by omega
    obtain ⟨bb,oo,ixx,wr,ldd⟩:=(r5.rc w5).rsl.rd hlt
    have eg:l.getD (l.length/2) ak.z=l[l.length/2]:=by rw [List.getD_eq_getElem?_getD,List.getElem?_eq_getElem hlt];rfl
    rw [eg]
    obtain ⟨ka,kc,h6,e6,s6,o6⟩:=r67 (h:=h5) (by rw [O5.n0];exact hG) wr
    generalize l[l.length/2]=rk at *
    have O6:=O5.trans o6
    have M6:=M h6 (((o2.trans o4).trans o5).trans o6)
    obtain ⟨m7,h7,e7,o7,X7,W7⟩:=r17M (h:=h6) (cl:=m.cl) (ch:=kc) (by rw [O6.n0];exact hG) (Old.get O6 hz) (Old.get O6 gv) (RS.mono O6) nv ks vl hR (wl h6 O6) s6 (by omega) (by omega)
    have O7:=O6.trans o7
    have M7:=M h7 ((((o2.trans o4).trans o5).trans o6).trans o7)
    obtain ⟨m8,h8',e8,o8,X8,W8⟩:=r17M (h:=h7) (cl:=kc) (ch:=m.ch) (by rw [O7.n0];exact hG) (Old.get O7 hz) (Old.get O7 gv) (RS.mono O7) nv ks vl hR (Old.bytes o7 s6) (wh h7 O7) (by omega) (by omega)
    have O8:=O7.trans o8
    have hd7:fo m7.root:=by rw [X7.root];exact X7.d32
    have hd8:fo m8.root:=by rw [X8.root];exact X8.d32
    have e9:=bsl_msg2 hd7 hd8 h8'
    have o9:Old h8' (h8'.alloc (mC m7++mC m8)):=Kept.alloc _ _ _
    have g9:(h8'.alloc (mC m7++mC m8)).get h8'.next=some (mC m7++mC m8):=by rw [ab.aH,if_pos rfl]
    generalize h8'.alloc (mC m7++mC m8)=h9 at *
    have A:Ans h9 h.next (.slice (some ⟨h8'.next,0,none⟩) 2 2) [m7,m8] [sumA R x.lo (keyB rk),sumA R (keyB rk) x.hi]:=by
     refine ⟨.inr ⟨h8'.next,none,rfl,by rw [g9];simp [msC],O8.next,fun m hm => ?_⟩,rfl,fun i hi hi' => ?_,fun i hi hi' => ?_⟩
     ·rcases List.mem_cons.1 hm with rfl|hm
      ·exact W7.bel.up o8.next
      ·rw [List.mem_singleton.1 hm]
       exact W8.bel
     ·have hi2:i<2:=hi
      rcases (show i=0∨i=1 by omega) with rfl|rfl
      ·exact X7.bM (o8.trans o9)
      ·exact X8.bM o9
     ·have hi2:i<2:=hi
      rcases (show i=0∨i=1 by omega) with rfl|rfl
      ·exact (W7.bM (o8.trans o9)).weak O6.next
      ·exact (W8.bM o9).weak O7.next
    have fin : ∃ w ms h',(some (Value.slice (some ⟨h8'.next,0,none⟩) 2 2,h9):Out)=some (w,h')∧Old h h'∧Ans h' h.next w ms [sumA R x.lo (keyB rk),sumA R (keyB rk) x.hi]:=⟨_,_,_,rfl,O8.trans o9,A⟩
    have ck : ∀ g,cm true (some (m.hi,g)) m.hi=true:=fun g=>chk_sl2 ..
    cases p<;>cases q
    all_goals first
     |exact absurd rfl hq
     | (simp -implicitDefEqProofs only [bt,bf',aW,bc,aA,Nat.zero_add,q10,l10,e35,if_true,Bool.false_eq_true,if_false,ll5,leq3 l.length 8 8 rfl,decide_eq_false h8,quo2 (show l.length≤1000000 by omega),ixx,ldd h5 (Kept.refl _ _),e6,M6.l7,e7,M7.l8,e8,e9,M6.l8,ck,Bool.and_true,ad,af]
        exact fin)
 obtain ⟨q,e,w,ms,h',e',oo⟩:=key
 exact ⟨w,ms,h',aG is100 hG rfl ((t100_eq _ _ _ _).trans (e.trans e')),oo⟩
end Go.Proofs.YtdnahgfgoajmcaaDoor

namespace Go.Proofs.YtdnahgfgoajmcaaDoor
open Go Go.Abs
attribute [local congr] aj
def mEnds (a b:Int) (m:dt):dt:={ m with frm:=a,to:=b }
def aEnds (a b:Int) (x:AM):AM:={ x with frm:=a,to:=b }
theorem set_mid {A B C:List Value} {o j:Nat} {v:Value} (hA:A.length=o) (hj:j<B.length):(A++(B++C)).set (o+j) v=A++(B.set j v++C):=by
 subst hA
 rw [List.set_append_right _ _ (by omega),Nat.add_sub_cancel_left,List.set_append_left _ _ hj]
theorem msC_len {ms:List dt} (h : ∀ m∈ms,fo m.root):(msC ms).length=ms.length*116:=by
 induction ms with
 |nil=>rfl
 |cons m ms ih=>
  unfold msC at *
  rw [List.flatMap_cons,List.length_append,(mC_ok (h m List.mem_cons_self)).1,ih fun q hq=>h q (List.mem_cons_of_mem _ hq),List.length_cons]
  omega
theorem msC_app (A B:List dt):msC (A++B)=msC A++msC B:=by
 unfold msC
 rw [List.flatMap_append]
theorem msC_one (m:dt):msC [m]=mC m:=by
 unfold msC
 rw [List.flatMap_cons,List.flatMap_nil,List.append_nil]
theorem mC_ends (m:dt) (a b:Int):((mC m).set 1 (.int .i64 a)).set 2 (.int .i64 b)=mC (mEnds a b m):=rfl
set_option maxRecDepth 100000 in
theorem rep_loop {C:ae} {g0:ab} {N:Nat} {w:Value} {ms:List dt} {xs:List AM} (A:Ans g0 N w ms xs) (hN:g0.n0≤N) {mb:Nat} {m:dt} (hm:fo m.root) (gm:g0.get mb=some (mC m)) (hmb:mb<N) (hl:ms.length≤1000000)
  {x:Nat→Value} (x3:x 3=ptr mb 0) (x6:x 6=w) (x47:x 47=ai ms.length) (x48:x 48=ai 0) :
  Fin 65 (fun ex y g=>ex = .exit 1∧y 6=w∧Kept g0 g (fun b=>N≤b)∧Ans g N w (ms.map (mEnds m.to m.frm)) (xs.map (aEnds m.to m.frm))) (iter (au Tryd.prog C (partOf Tryd.f50 [1,1,1,1,0,1,0,0])) rounds (aN 65 x) g0):=by
 rcases A.sl with ⟨rfl,rfl⟩|⟨b,s,rfl,gb,hb,bel⟩
 ·have hx:xs = []:=List.length_eq_zero_iff.1 A.len.symm
  subst hx
  refine bH (t50l50_1111010_eq C) (Inv:=fun k y g=>g=g0∧y 6 = .slice none 0 0∧y 47=ai 0∧y 48=ai 0) ?_ 0 (by have:rounds=18446744073709551616:=rfl;omega) ⟨rfl,x6,x47,x48⟩
  rintro k y g ⟨rfl,y6,y47,y48⟩
  unfold fW
  simp -implicitDefEqProofs only [y47,y48,lss3,decide_eq_false (Nat.lt_irrefl 0),ad,af]
  exact eS.out 1 ⟨rfl,y6,Kept.refl _ _,A⟩
 ·have dr : ∀ q∈ms,fo q.root:=fun q hq=>by
   obtain ⟨i,hi,rfl⟩:=List.mem_iff_getElem.1 hq
   have hi':i<xs.length:=by rw [←A.len];exact hi
   have:=A.is i hi hi'
   rw [this.root]
   exact this.d32
  have nb:g0.n0≤b:=Nat.le_trans hN hb
  refine bH (t50l50_1111010_eq C) (Inv:=fun k y g => ∃ i,i+k=ms.length∧y 3=ptr mb 0∧y 6 = .slice (some ⟨b,0,s⟩) ms.length ms.length∧y 47=ai ms.length∧y 48=ai i∧Kept g0 g (· = b)∧g.get b=some (msC ((ms.take i).map (mEnds m.to m.frm)++ms.drop i))) ?_ ms.length (by have:rounds=18446744073709551616:=rfl;omega) ⟨0,by omega,x3,x6,x47,x48,Kept.refl _ _,by rw [List.take_zero];exact gb⟩
  rintro k y g ⟨i,hik,y3,y6,y47,y48,K,gg⟩
  unfold fW
  simp -implicitDefEqProofs only [y47,y48,lss3,ad,af]
  by_cases hi:i<ms.length
  ·have hmb':mb≠b:=by omega
   have M0:=m_ld hm (K.dv gm hmb')
   have hlt:(ms.take i).length=i:=by rw [List.length_take];omega
   have dl : ∀ q∈(ms.take i).map (mEnds m.to m.frm),fo q.root:=fun q hq=>by
    obtain ⟨q',hq',rfl⟩:=List.mem_map.1 hq
    exact dr q' (List.mem_of_mem_take hq')
   have l1:(msC ((ms.take i).map (mEnds m.to m.frm))).length=i*116:=by rw [msC_len dl,List.length_map,hlt]
   have di:=dr _ (List.getElem_mem hi)
   have lm:=(mC_ok di).1
   have split:msC ((ms.take i).map (mEnds m.to m.frm)++ms.drop i)=msC ((ms.take i).map (mEnds m.to m.frm))++(mC ms[i]++msC (ms.drop (i+1))):=by
    rw [msC_app,List.drop_eq_getElem_cons hi]
    rfl
   rw [split] at gg
   have ix:cd 116 (.slice (some ⟨b,0,s⟩) ms.length ms.length) (ai i)=some (ptr b (i*116)):=by
    unfold cd ai
    simp only
    rw [if_pos (by omega),Int.toNat_natCast,Nat.zero_add]
   have nb':g.n0≤b:=by rw [K.n0];exact nb
   obtain ⟨g2,e2,k2,q2,_,_⟩:=stored (o:=i*116+1) (v := .int .i64 m.to) gg nb' (by rw [List.length_append,List.length_append,l1,lm];omega) rfl rfl
   rw [set_mid l1 (by omega)] at q2
   have K2:=K.trans k2
   have M2:=m_ld hm (K2.dv gm hmb')
   obtain ⟨g3,e3,k3,q3,_,_⟩:=stored (o:=i*116+2) (v := .int .i64 m.frm) q2 (by rw [k2.n0];exact nb') (by rw [List.length_append,List.length_append,l1,List.length_set,lm];omega) rfl rfl
   rw [set_mid l1 (by rw [List.length_set];omega),mC_ends] at q3
   have K3:=K2.trans k3
   have a48:bin Tryd.prog .add 3 (ai i) (.int .i64 1)=some (ai (i+1)):=ff (by omega)
   have ck:cm true (some (.int .i64 m.frm,g2)) (.int .i64 m.frm)=true:=chkI ..
   simp -implicitDefEqProofs only [decide_eq_true hi,y3,y6,y48,aA,Nat.zero_add,M0.l2,M0.l1,ix,e2,e3,M2.l1,ck,Bool.and_true,a48,ad,af]
   refine eS.next (k-1) (by omega) ⟨i+1,by omega,y3,y6,y47,rfl,K3,?_⟩
   rw [q3,List.take_succ_eq_append_getElem hi,List.map_append,msC_app,msC_app,List.append_assoc]
   congr 2
   rw [List.map_cons,List.map_nil,msC_one]
  ·have hE:i=ms.length:=by omega
   subst hE
   rw [List.take_length,List.drop_length,List.append_nil] at gg
   simp -implicitDefEqProofs only [decide_eq_false hi,ad,af]
   refine eS.out 1 ⟨rfl,y6,K.mono (fun c _ q=>by
    have q:c=b:=q
    omega),?_⟩
   have nxt:=K.next
   refine ⟨.inr ⟨b,s,by rw [List.length_map],gg,hb,fun q hq => ?_⟩,by rw [List.length_map,List.length_map,A.len],fun j hj hj' => ?_,fun j hj hj' => ?_⟩
   ·obtain ⟨q',hq',rfl⟩:=List.mem_map.1 hq
    exact bel q' hq'
   ·rw [List.length_map] at hj hj'
    have I:=A.is j hj hj'
    have O:=A.own j hj hj'
    have bl:=bel _ (List.getElem_mem hj)
    rw [List.getElem_map,List.getElem_map]
    refine ⟨I.kind,rfl,rfl,I.cnt,I.root,I.want,I.d32,bytes_keep I.lo fun y hy=>K.get _ (O.lo y hy).2 (fun q => ?_),bytes_keep I.hi fun y hy=>K.get _ (O.hi y hy).2 (fun q => ?_),I.rs.keepS K fun q => ?_⟩
    ·have h1:=bl.1 y hy
     have q:y.block=b:=q
     omega
    ·have h1:=bl.2.1 y hy
     have q:y.block=b:=q
     omega
    ·have h1:=bl.2.2 b (by
      have w:=O.rs.wform
      rcases w with e|⟨b',s',n',e⟩
      ·rw [show ms[j].recs=_ from e] at q;cases q
      ·rw [show ms[j].recs=_ from e] at q ⊢
       cases n' with
       |zero=>cases q
       |succ n=>cases q;rfl)
     omega
   ·rw [List.length_map] at hj hj'
    have O:=A.own j hj hj'
    have bl:=bel _ (List.getElem_mem hj)
    rw [List.getElem_map,List.getElem_map]
    exact ⟨fun y hy=>⟨(O.lo y hy).1,Nat.lt_of_lt_of_le (O.lo y hy).2 nxt⟩,fun y hy=>⟨(O.hi y hy).1,Nat.lt_of_lt_of_le (O.hi y hy).2 nxt⟩,O.rs.eW K fun c hc q=>by
     have h1:=bl.2.2 c hc
     have q:c=b:=q
     omega⟩
theorem b50_10f (C:ae) (e:Env) (h:ab):b50_10 C 1 e h=k50_8 C e h:=rfl
set_option maxRecDepth 100000 in
theorem r50s {h:ab} (hG:4≤h.n0) (hz:h.get 3=some bB) {vb:Nat} {va:Value} {R:List ak} (gv:h.get vb=some [va]) (RS:RcS h va R) (nv:nilOk va) (ks:KS R) (vl:Vld R) (hR:R.length≤1000000) {m:dt} {x:AM} (X:MIs h m x) (hnl:m.nl≤20000) (hnh:m.nh≤20000) (hk:x.kind=4) (hc:0≤x.cnt) :
  ∃ w ms h',CV 50 [ptr vb 0,mV m] h=some (.tuple #[w,.int .i64 0],h')∧Old h h'∧Ans h' h.next w ms ((fG R x).map (aEnds x.to x.frm)):=by
 have hd:fo m.root:=by rw [X.root];exact X.d32
 have ok:=mC_ok hd
 have b1:box (mV m) h=some (ptr h.next 0,h.alloc (mC m)):=box_at h _ ok.2.2
 have o1:Old h (h.alloc (mC m)):=Kept.alloc _ _ _
 have g1:(h.alloc (mC m)).get h.next=some (mC m):=by rw [ab.aH,if_pos rfl]
 have n1:(h.alloc (mC m)).next=h.next+1:=rfl
 generalize h.alloc (mC m)=h1 at *
 have M:=m_ld hd g1
 have l0:=M.l0
 rw [X.kind,hk] at l0
 have l0:ld1 (ptr h.next 0) h1=some (.int .u8 4,h1):=l0
 have gc:bin Tryd.prog .geq 3 (.int .i64 m.cnt) (.int .i64 0)=some (.bool true):=by rw [ge0,X.cnt,decide_eq_true hc]
 obtain ⟨w,ms,h2,e2,o2,A⟩:=r100 (h:=h1) (by rw [o1.n0];exact hG) (Old.get o1 hz) (Old.get o1 gv) (RS.mono o1) nv ks vl hR (X.bM o1) hnl hnh
 have e2:=CV_up (f:=100) rfl (by decide) e2
 have O2:=o1.trans o2
 have e31:bin Tryd.prog .eql 31 (.int .u8 4) (.int .u8 4)=some (.bool true):=by kernel_rfl
 have hlen:ms.length≤1000000:=by
  rw [A.len]
  have:(fG R x).length≤2:=by
   unfold fG
   simp only
   split
   ·exact Nat.zero_le _
   ·split<;>simp
  omega
 have ln:cx w=some (ai ms.length):=by
  rcases A.sl with ⟨rfl,rfl⟩|⟨b,s,rfl,_⟩<;>rfl
 have key : ∃ out:Out,t50 CV (ptr vb 0) (mV m) h=out ∧ ∃ w ms h',out=some (.tuple #[w,.int .i64 0],h')∧Old h h'∧Ans h' h.next w ms ((fG R x).map (aEnds x.to x.frm)):=by
  refine ⟨_,rfl,?_⟩
  unfold t50
  simp -implicitDefEqProofs only [b1,nil25,aA,Nat.zero_add,l0,e31,bt,aW,M.l9,gc,if_true,M.all,e2,ln,ad,af]
  refine bJ (Q:=fun o:Out => ∃ w ms h',o=some (.tuple #[w,.int .i64 0],h')∧Old h h'∧Ans h' h.next w ms ((fG R x).map (aEnds x.to x.frm))) (rep_loop (C:=CV) A (by rw [o2.n0];exact h1.ax) hd (Old.get o2 g1) (mb:=h.next) (by omega) hlen rfl rfl rfl rfl) ?_
  rintro ex z g ⟨rfl,z6,K,A'⟩
  simp -implicitDefEqProofs only [bn,b50_10f,t50k50_8_eq]
  unfold t50k50_8
  simp -implicitDefEqProofs only [z6,ad]
  rw [X.to,X.frm] at A'
  refine ⟨w,ms.map (mEnds x.to x.frm),g,rfl,O2.also K (fun d hd q=>by omega),?_⟩
  have hle:h.next≤h1.next:=o1.next
  refine ⟨?_,A'.len,A'.is,fun i hi hi'=>(A'.own i hi hi').weak hle⟩
  rcases A'.sl with q|⟨b,s,q1,q2,q3,q4⟩
  ·exact .inl q
  ·exact .inr ⟨b,s,q1,q2,Nat.le_trans hle q3,q4⟩
 obtain ⟨q,e,w',ms',h',e',oo⟩:=key
 exact ⟨w',ms',h',CV_body is50 hG (by decide) (by decide) ((t50_eq _ _ _ _).trans (e.trans e')),oo⟩
end Go.Proofs.YtdnahgfgoajmcaaDoor

namespace Go.Proofs.YtdnahgfgoajmcaaDoor
open Go Go.Abs
attribute [local congr] aj
def Room (P:Nat→Prop) (g:ab) (z:Nat) (v:Value) (n:Nat):Prop:=(∃ a c,v = .slice a n c)∧(n=0 ∨ ∃ b off s c k,v = .slice (some ⟨b,off,s⟩) n c∧g.get b=some k∧off+n*z≤k.length∧P b)
def ByS (P:Nat→Prop) (g:ab) (a:Option Addr) (n:Nat):Prop:=n=0 ∨ ∃ b off s k,a=some ⟨b,off,s⟩∧g.get b=some k∧off+n≤k.length∧P b ∧ ∀ i,i<n → ∃ x,x<256∧k[off+i]? = some (u8 x)
theorem Room.len {P:Nat→Prop} {g:ab} {z:Nat} {v:Value} {n:Nat} (x:Room P g z v n):cx v=some (ai n):=by
 obtain ⟨⟨a,c,rfl⟩,_⟩:=x
 rfl
def LenP (P:Nat→Prop) (g g':ab):Prop := ∀ b,P b → ∀ k,g.get b=some k → ∃ k',g'.get b=some k'∧k'.length=k.length
theorem LenP.of {P B:Nat→Prop} {g g':ab} (k:Kept g g' B) (h : ∀ b,P b → ¬B b):LenP P g g':=fun b hb q e=>⟨q,k.dv e (h b hb),rfl⟩
theorem LenP.set {P:Nat→Prop} {g g':ab} {c:Nat} {k0 k1:fX} (k:Kept g g' (· = c)) (h0:g.get c=some k0) (h1:g'.get c=some k1) (hl:k1.length=k0.length):LenP P g g':=fun b _ q e=>by
 by_cases hb:b=c
 ·subst hb
  rw [h0] at e
  cases e
  exact ⟨k1,h1,hl⟩
 ·exact ⟨q,k.dv e hb,rfl⟩
theorem Room.eW {P:Nat→Prop} {g g':ab} {z:Nat} {v:Value} {n:Nat} (x:Room P g z v n) (l:LenP P g g'):Room P g' z v n:=by
 obtain ⟨h1,h2⟩:=x
 refine ⟨h1,?_⟩
 rcases h2 with h|⟨b,off,s,c,k,e,hk,hl,hP⟩
 ·exact .inl h
 ·obtain ⟨k',e',l'⟩:=l b hP k hk
  exact .inr ⟨b,off,s,c,k',e,e',by omega,hP⟩
theorem ByS.eW {P B:Nat→Prop} {g g':ab} {a:Option Addr} {n:Nat} (x:ByS P g a n) (k:Kept g g' B) (h : ∀ b,P b → ¬B b):ByS P g' a n:=by
 rcases x with h0|⟨b,off,s,q,e,hk,hl,hP,ht⟩
 ·exact .inl h0
 ·exact .inr ⟨b,off,s,q,e,k.dv hk (h b hP),hl,hP,ht⟩
theorem ByS.put {P:Nat→Prop} {g g':ab} {a:Option Addr} {n c o:Nat} {y:Nat} {k0:fX} (x:ByS P g a n) (k:Kept g g' (· = c)) (h0:g.get c=some k0) (h1:g'.get c=some (k0.set o (u8 y))) (hy:y<256):ByS P g' a n:=by
 rcases x with h|⟨b,off,s,q,e,hk,hl,hP,ht⟩
 ·exact .inl h
 ·by_cases hb:b=c
  ·subst hb
   rw [h0] at hk
   cases hk
   refine .inr ⟨b,off,s,_,e,h1,by rw [List.length_set];exact hl,hP,fun i hi => ?_⟩
   by_cases hp:o=off+i
   ·subst hp
    exact ⟨y,hy,by rw [List.getElem?_set,if_pos rfl,if_pos (by omega)]⟩
   ·obtain ⟨x',h2,h3⟩:=ht i hi
    exact ⟨x',h2,by rw [List.getElem?_set,if_neg hp];exact h3⟩
  ·exact .inr ⟨b,off,s,q,e,k.dv hk hb,hl,hP,ht⟩
theorem ByS.of {P:Nat→Prop} {g:ab} {a:Option Addr} {n:Nat} {l:List Nat} (e:aq a n g=some l) (h : ∀ y,a=some y→P y.block):ByS P g a n:=by
 obtain ⟨h1,h2,h3⟩:=aD e
 by_cases hn:n=0
 ·exact .inl hn
 ·obtain ⟨b,off,s,k,rfl,hk,hl,ht⟩:=h3 (by omega)
  refine .inr ⟨b,off,s,k,rfl,hk,hl,h _ rfl,fun i hi=>⟨l.getD i 0,?_,ht i hi⟩⟩
  rw [List.getD_eq_getElem?_getD,List.getElem?_eq_getElem (by omega)]
  exact h2 _ (List.getElem_mem _)
theorem xor255 {x:Nat} (h:x<256):bin Tryd.prog .xor 5 (.int .u8 (x:Int)) (.int .u8 255)=some (u8 (x ^^^ 255)):=bin_xor_nat (P:=Tryd.prog) (t:=5) (k := .u8) rfl (b:=255) h (by decide)
theorem xor255_lt {x:Nat} (h:x<256):x ^^^ 255<256:=Nat.xor_lt_two_pow (n:=8) h (by decide)
theorem stored_mid {h:ab} {b o n:Nat} {k k':fX} (g:h.get b=some k) (hn:h.n0≤b) (hl:o+n≤k.length) (hl':k'.length=n) (ho:az k'=true) : ∃ h2 k2,fM n (ptr b o) (.agg k'.toArray) h=some (undef,h2)∧Kept h h2 (· = b)∧h2.get b=some k2∧k2.length=k.length:=by
 have hc:(Value.agg k'.toArray).cells=k'.toArray:=rfl
 refine ⟨h.set b (a6 k o k'),a6 k o k',?_,Kept.set hn g (.inr rfl),ab.dm hn g _,?_⟩
 ·unfold fM ptr
  simp only [hc,List.size_toArray,hl',if_true]
  unfold stL
  simp only [g]
  have h1:decide (h.n0≤b)=true:=decide_eq_true hn
  have h2:decide (o+k'.length≤k.length)=true:=decide_eq_true (by omega)
  rw [h1,h2,ho]
  rfl
 ·unfold a6
  rw [List.length_append,List.length_append,List.length_take,List.length_drop]
  omega
def LLw (g:ab) (v:Value) (b:Nat) (vs:List Value):Prop := ∃ s,v = .slice (some ⟨b,0,s⟩) vs.length vs.length∧g.get b=some vs∧0<vs.length∧(s=none∨s=some 1)
theorem LLw.push {g:ab} {v u:Value} {b c:Nat} {vs:List Value} (x:LLw g v b vs) (hn:g.n0≤b) (hl:vs.length≤1000) (hv : ∀ w∈vs,∃ a n c,w = .slice a n c) (hu : ∃ a n c,u = .slice a n c) (hc:g.get c=some [u]) :
  ∃ v' g',aO 1 24 v (.slice (some ⟨c,0,none⟩) 1 1) g=some (v',g')∧LLw g' v' g.next (vs ++ [u])∧Kept g g' (· = b)∧g'.next=g.next+1:=by
 obtain ⟨s,rfl,gb,h0,hs⟩:=x
 obtain ⟨ua,un,uc,rfl⟩:=hu
 have nh:Abs.bj vs=true:=by
  unfold Abs.bj
  rw [List.all_eq_true]
  intro w hw
  obtain ⟨a,n,c,rfl⟩:=hv w hw
  rfl
 have hf:aS 1 1 (.slice (some ⟨c,0,none⟩) 1 1) g=some [.slice ua un uc]:=by
  unfold aS
  simp only
  rw [if_neg (by decide),hc]
  rfl
 have hfo:aS 1 vs.length (.slice (some ⟨b,0,s⟩) vs.length vs.length) g=some vs:=by
  unfold aS
  simp only
  rw [if_neg (by omega),gb]
  simp only
  rw [List.drop_zero,List.take_of_length_le (by omega),if_pos ⟨by omega,nh⟩]
 have hcond:(!(az [Value.slice ua un uc]) || !(decide ((vs.length+1)*24≤140737488355328)) || !(decide (vs.length+1≤4611686018427387904))||decide ([Value.slice ua un uc].length≠1*1))=false:=by
  rw [decide_eq_true (by omega:(vs.length+1)*24≤140737488355328),decide_eq_true (by omega:vs.length+1≤4611686018427387904)]
  rfl
 rcases hs with rfl|rfl
 ·refine ⟨.slice (some ⟨g.next,0,some 1⟩) (vs.length+1) (vs.length+1),g.alloc (vs ++ [.slice ua un uc]),?_,⟨some 1,by rw [List.length_append];rfl,by rw [ab.aH,if_pos rfl],by rw [List.length_append,List.length_singleton];omega,.inr rfl⟩,Kept.alloc _ _ _,rfl⟩
  unfold aO
  simp only [lenA,hf]
  rw [if_neg (by rw [hcond];decide),if_neg (by omega)]
  simp only [hfo]
  rw [if_neg (by omega)]
 ·refine ⟨.slice (some ⟨g.next,0,some 1⟩) (vs.length+1) (vs.length+1),(g.kill b).alloc (vs ++ [.slice ua un uc]),?_,⟨some 1,by rw [List.length_append];rfl,by rw [ab.aH,if_pos (by rfl)],by rw [List.length_append,List.length_singleton];omega,.inr rfl⟩,?_,rfl⟩
  ·unfold aO
   simp only [lenA,hf]
   rw [if_neg (by rw [hcond];decide),if_neg (by omega)]
   simp only [hfo]
   rw [if_neg (by omega),if_pos (by rw [gb];simp;omega)]
  ·refine ⟨rfl,by simp,fun q hq hb => ?_⟩
   rw [ab.bQ,ab.eZ,if_neg (by omega)]
   unfold ab.kill
   rw [g.bW hn (g.aF gb),if_neg (show ¬q=b from hb)]
end Go.Proofs.YtdnahgfgoajmcaaDoor

namespace Go.Proofs.YtdnahgfgoajmcaaDoor
open Go Go.Abs
attribute [local congr] aj
theorem b13_28e (C:ae) (e:Env) (h:ab):b13_28 C 2 e h=k13_26 C e h:=rfl
theorem b13_37e (C:ae) (e:Env) (h:ab):b13_37 C 4 e h=k13_23 C e h:=rfl
theorem b13_35e (C:ae) (e:Env) (h:ab):b13_35 C 8 e h=k13_32 C e h:=rfl
def PB (N mb H b0:Nat) (b:Nat):Prop:=N≤b∧b<H∧b≠b0∧b≠mb
def PRm (N bi H b0:Nat) (b:Nat):Prop:=(b=bi∨N≤b)∧b<H∧b≠b0
structure MemE (hN:ab) (bi mb H b0:Nat) (ms:List dt) (g:ab) (v7:Value) (bl:Nat) (vs:List Value):Prop where
 K:Kept hN g (· = bi)
 nx:H≤g.next
 gm:g.get mb=some (msC ms)
 by_ : ∀ m∈ms,ByS (PB hN.next mb H b0) g m.al m.nl∧ByS (PB hN.next mb H b0) g m.ah m.nh
 rm : ∀ m∈ms,Room (PRm hN.next bi H b0) g 39 m.recs m.nr
 ll:LLw g v7 bl vs
 lb:(bl=b0∨H≤bl)∧hN.next≤bl
 vr : ∀ u∈vs,∃ n,n≤1000∧Room (PRm hN.next bi H b0) g 39 u n
structure MemC (hN:ab) (bi mb H b0:Nat) (ms:List dt):Prop where
 n0:hN.n0≤bi
 biN:bi<hN.next
 b0N:hN.next≤b0
 b0H:b0<H
 mbN:hN.next≤mb
 mbH:mb<H
 mb0:mb≠b0
 dr : ∀ m∈ms,fo m.root
 nr : ∀ m∈ms,m.nr≤1000
 nl : ∀ m∈ms,m.nl≤1000∧m.nh≤1000
theorem m_idx {mb:Nat} {ms:List dt} {i:Nat} (hi:i<ms.length) (s:Option Nat):cd 116 (.slice (some ⟨mb,0,s⟩) ms.length ms.length) (ai i)=some (ptr mb (i*116)):=by
 unfold cd ai
 simp only
 rw [if_pos (by omega),Int.toNat_natCast,Nat.zero_add]
section
variable {hN:ab} {bi mb H b0:Nat} {ms:List dt} (Q:MemC hN bi mb H b0 ms)
include Q
theorem MemE.put {g g':ab} {v7:Value} {bl:Nat} {vs:List Value} (x:MemE hN bi mb H b0 ms g v7 bl vs) {c o y:Nat} {k0:fX} (hc:PB hN.next mb H b0 c) (k:Kept g g' (· = c)) (h0:g.get c=some k0) (h1:g'.get c=some (k0.set o (u8 y))) (hy:y<256):MemE hN bi mb H b0 ms g' v7 bl vs:=by
 have b0H:=Q.b0H
 obtain ⟨c1,c2,c3,c4⟩:=hc
 have lp:LenP (PRm hN.next bi H b0) g g':=LenP.set k h0 h1 (by rw [List.length_set])
 have hbl:bl≠c:=by
  rcases x.lb.1 with h|h<;>omega
 refine ⟨x.K.also k (fun d hd q=>by omega),Nat.le_trans x.nx k.next,k.dv x.gm (fun q=>c4 q.symm),fun m hm=>⟨(x.by_ m hm).1.put k h0 h1 hy,(x.by_ m hm).2.put k h0 h1 hy⟩,fun m hm=>(x.rm m hm).eW lp,?_,x.lb,fun u hu => ?_⟩
 ·obtain ⟨s,e1,e2,e3,e4⟩:=x.ll
  exact ⟨s,e1,k.dv e2 hbl,e3,e4⟩
 ·obtain ⟨n,hn,r⟩:=x.vr u hu
  exact ⟨n,hn,r.eW lp⟩
theorem m_cell {g:ab} (gm:g.get mb=some (msC ms)) {i j:Nat} (hi:i<ms.length) {v:Value} (hj:j<116) (hv:(mC ms[i])[j]? = some v) (hh:isHole v=false):ld1 (ptr mb (i*116+j)) g=some (v,g):=by
 refine ba gm ?_ hh
 have hlt:(ms.take i).length=i:=by rw [List.length_take];omega
 have l1:(msC (ms.take i)).length=i*116:=by rw [msC_len fun q hq=>Q.dr q (List.mem_of_mem_take hq),hlt]
 have e:msC ms=msC (ms.take i)++(mC ms[i]++msC (ms.drop (i+1))):=by
  conv=>lhs;rw [←List.take_append_drop i ms,msC_app,List.drop_eq_getElem_cons hi]
  rfl
 have lm:=(mC_ok (Q.dr _ (List.getElem_mem hi))).1
 rw [e,List.getElem?_append_right (by omega),l1,Nat.add_sub_cancel_left,List.getElem?_append_left (by omega)]
 exact hv
theorem xor_step {g:ab} {v7:Value} {bl:Nat} {vs:List Value} (x:MemE hN bi mb H b0 ms g v7 bl vs) {a:Option Addr} {n c j:Nat} (hb:ByS (PB hN.next mb H b0) g a n) (hj:j<n) :
  ∃ (b o y:Nat) (g':ab),cd 1 (.slice a n c) (ai j)=some (ptr b o)∧ld1 (ptr b o) g=some (.int .u8 (y:Int),g)∧y<256∧fM 1 (ptr b o) (u8 (y ^^^ 255)) g=some (undef,g')∧MemE hN bi mb H b0 ms g' v7 bl vs:=by
 have n0:=Q.n0
 have biN:=Q.biN
 rcases hb with h0|⟨b,off,s,k,rfl,hk,hl,hP,ht⟩
 ·omega
 ·obtain ⟨y,hy,hc⟩:=ht j hj
  obtain ⟨g',e,k',q,_,_⟩:=stored (o:=off+j) (v:=u8 (y ^^^ 255)) hk (by rw [x.K.n0];have:=hP.1;omega) (by omega) rfl rfl
  refine ⟨b,off+j,y,g',?_,ba hk hc rfl,hy,e,x.put Q hP k' hk q (xor255_lt hy)⟩
  unfold cd ai
  simp only
  rw [if_pos (by omega),Int.toNat_natCast,Nat.mul_one]
set_option maxRecDepth 100000 in
theorem mem_lo {C:ae} {g0:ab} {v7:Value} {bl:Nat} {vs:List Value} (x0:MemE hN bi mb H b0 ms g0 v7 bl vs) {i:Nat} (hi:i<ms.length) {s:Option Nat} {x:Nat→Value} (x8:x 8 = .slice (some ⟨mb,0,s⟩) ms.length ms.length) (x10:x 10=ai i) (x11:x 11=ai 0) :
  Fin 135 (fun ex y g=>ex = .exit 2∧MemE hN bi mb H b0 ms g v7 bl vs∧y 3=x 3∧y 6=x 6∧y 7=x 7∧y 8=x 8∧y 10=x 10) (iter (au Tryd.prog C (partOf Tryd.f13 [1,1,1,1,1,1,1,1,1,0,1,0,0,1,0,0,1,0,1,0,0])) rounds (aN 135 x) g0):=by
 have hnl:=(Q.nl _ (List.getElem_mem hi)).1
 refine bH (t13l13_11111111101001001010_eq C) (Inv:=fun k y g => ∃ j,j+k=ms[i].nl∧MemE hN bi mb H b0 ms g v7 bl vs∧y 3=x 3∧y 6=x 6∧y 7=x 7∧y 8=x 8∧y 10=x 10∧y 11=ai j) ?_ ms[i].nl (by have:rounds=18446744073709551616:=rfl;omega) ⟨0,by omega,x0,rfl,rfl,rfl,rfl,rfl,x11⟩
 rintro k y g ⟨j,hjk,E,y3,y6,y7,y8,y10,y11⟩
 have y8':=y8.trans x8
 have y10':=y10.trans x10
 have ix:=m_idx (mb:=mb) hi s
 have l7:=m_cell Q E.gm hi (j:=7) (v:=ms[i].lo) (by decide) (mC_hd _ rfl) rfl
 have ln:cx ms[i].lo=some (ai ms[i].nl):=rfl
 unfold cO
 simp -implicitDefEqProofs only [y8',y10',y11,ix,aA,l7,ln,lss3,ad,af]
 by_cases hj:j<ms[i].nl
 ·obtain ⟨b,o,z,g',e1,e2,hz,e3,E'⟩:=xor_step Q E (c:=ms[i].cl) (E.by_ _ (List.getElem_mem hi)).1 hj
  have a11:bin Tryd.prog .add 3 (ai j) (.int .i64 1)=some (ai (j+1)):=ff (by omega)
  simp -implicitDefEqProofs only [decide_eq_true hj,y8',y10',y11,ix,aA,l7,e1,e2,xor255 hz,e3,a11,ad,af]
  exact eS.next (k-1) (by omega) ⟨j+1,by omega,E',y3,y6,y7,y8,y10,rfl⟩
 ·simp -implicitDefEqProofs only [decide_eq_false hj,ad]
  exact eS.out 2 ⟨rfl,E,y3,y6,y7,y8,y10⟩
set_option maxRecDepth 100000 in
theorem mem_hi {C:ae} {g0:ab} {v7:Value} {bl:Nat} {vs:List Value} (x0:MemE hN bi mb H b0 ms g0 v7 bl vs) {i:Nat} (hi:i<ms.length) {s:Option Nat} {x:Nat→Value} (x8:x 8 = .slice (some ⟨mb,0,s⟩) ms.length ms.length) (x10:x 10=ai i) (x12:x 12=ai 0) :
  Fin 135 (fun ex y g=>ex = .exit 4∧MemE hN bi mb H b0 ms g v7 bl vs∧y 3=x 3∧y 6=x 6∧y 7=x 7∧y 8=x 8∧y 10=x 10) (iter (au Tryd.prog C (partOf Tryd.f13 [1,1,1,1,1,1,1,1,1,0,1,0,0,1,0,0,1,1,1,0,0])) rounds (aN 135 x) g0):=by
 have hnl:=(Q.nl _ (List.getElem_mem hi)).2
 refine bH (t13l13_11111111101001001110_eq C) (Inv:=fun k y g => ∃ j,j+k=ms[i].nh∧MemE hN bi mb H b0 ms g v7 bl vs∧y 3=x 3∧y 6=x 6∧y 7=x 7∧y 8=x 8∧y 10=x 10∧y 12=ai j) ?_ ms[i].nh (by have:rounds=18446744073709551616:=rfl;omega) ⟨0,by omega,x0,rfl,rfl,rfl,rfl,rfl,x12⟩
 rintro k y g ⟨j,hjk,E,y3,y6,y7,y8,y10,y12⟩
 have y8':=y8.trans x8
 have y10':=y10.trans x10
 have ix:=m_idx (mb:=mb) hi s
 have l8:=m_cell Q E.gm hi (j:=8) (v:=ms[i].hi) (by decide) (mC_hd _ rfl) rfl
 have ln:cx ms[i].hi=some (ai ms[i].nh):=rfl
 unfold cS
 simp -implicitDefEqProofs only [y8',y10',y12,ix,aA,l8,ln,lss3,ad,af]
 by_cases hj:j<ms[i].nh
 ·obtain ⟨b,o,z,g',e1,e2,hz,e3,E'⟩:=xor_step Q E (c:=ms[i].ch) (E.by_ _ (List.getElem_mem hi)).2 hj
  have a12:bin Tryd.prog .add 3 (ai j) (.int .i64 1)=some (ai (j+1)):=ff (by omega)
  simp -implicitDefEqProofs only [decide_eq_true hj,y8',y10',y12,ix,aA,l8,e1,e2,xor255 hz,e3,a12,ad,af]
  exact eS.next (k-1) (by omega) ⟨j+1,by omega,E',y3,y6,y7,y8,y10,rfl⟩
 ·simp -implicitDefEqProofs only [decide_eq_false hj,ad]
  exact eS.out 4 ⟨rfl,E,y3,y6,y7,y8,y10⟩
set_option maxRecDepth 100000 in
theorem mem_loop1 {C:ae} {g0:ab} {v7:Value} {bl:Nat} {vs:List Value} (E0:MemE hN bi mb H b0 ms g0 v7 bl vs) (hvs:vs.length+ms.length≤900) {s:Option Nat} {x:Nat→Value} (x7:x 7=v7) (x8:x 8 = .slice (some ⟨mb,0,s⟩) ms.length ms.length) (x10:x 10=ai 0) :
  Fin 135 (fun ex y g=>ex = .exit 0∧y 3=x 3∧y 6=x 6 ∧ ∃ bl' vs',MemE hN bi mb H b0 ms g (y 7) bl' vs'∧vs'.length≤900) (iter (au Tryd.prog C (partOf Tryd.f13 [1,1,1,1,1,1,1,1,1,0,1,0,0])) rounds (aN 135 x) g0):=by
 refine bH (t13l13_111111111010_eq C) (Inv:=fun k y g => ∃ i bl' vs',i+k=ms.length∧MemE hN bi mb H b0 ms g (y 7) bl' vs'∧vs'.length+(ms.length-i)≤900∧y 3=x 3∧y 6=x 6∧y 8=x 8∧y 10=ai i) ?_ ms.length (by have:rounds=18446744073709551616:=rfl;omega) ⟨0,bl,vs,by omega,by rw [x7];exact E0,by omega,rfl,rfl,rfl,x10⟩
 rintro k y g ⟨i,bl',vs',hik,E,hv,y3,y6,y8,y10⟩
 have y8':=y8.trans x8
 have ln:cx (.slice (some ⟨mb,0,s⟩) ms.length ms.length)=some (ai ms.length):=rfl
 unfold fi
 simp -implicitDefEqProofs only [y8',y10,ln,lss3,ad,af]
 by_cases hi:i<ms.length
 ·have ix:=m_idx (mb:=mb) hi s
  have l42:=m_cell Q E.gm hi (j:=42) (v:=ms[i].recs) (by decide) (mC_tl (Q.dr _ (List.getElem_mem hi)) (j:=0) rfl) rfl
  have n0:=Q.n0
  have biN:=Q.biN
  have b0N:=Q.b0N
  have mbH:=Q.mbH
  have o1:Old g (g.alloc [ms[i].recs]):=Kept.alloc _ _ _
  have g1:(g.alloc [ms[i].recs]).get g.next=some [ms[i].recs]:=by rw [ab.aH,if_pos rfl]
  have n1:(g.alloc [ms[i].recs]).next=g.next+1:=rfl
  have eb:du 1 (.slice none 0 0) 1 [(0,ms[i].recs)] g=some (.slice (some ⟨g.next,0,none⟩) 1 1,g.alloc [ms[i].recs]):=rfl
  generalize g.alloc [ms[i].recs]=h1 at *
  have hbl:=E.lb
  have ll1:LLw h1 (y 7) bl' vs':=by
   obtain ⟨s',e1,e2,e3,e4⟩:=E.ll
   exact ⟨s',e1,Old.get o1 e2,e3,e4⟩
  obtain ⟨w7,h2,e2,ll2,k2,n2⟩:=ll1.push (u:=ms[i].recs) (c:=g.next) (by rw [o1.n0,E.K.n0];omega) (by omega) (fun w hw=>by
   obtain ⟨n,_,r⟩:=E.vr w hw
   obtain ⟨⟨a,c,rfl⟩,_⟩:=r
   exact ⟨_,_,_,rfl⟩) ⟨_,_,_,rfl⟩ g1
  have K2:=(o1.mono (B':=(· = bl')) (fun _ _ h=>h.elim)).trans k2
  have pr : ∀ b,PRm hN.next bi H b0 b → ¬b=bl':=fun b hb q=>by
   rcases hb with ⟨h1|h1,h2,h3⟩<;>rcases hbl with ⟨h4|h4,h5⟩<;>omega
  have pb : ∀ b,PB hN.next mb H b0 b → ¬b=bl':=fun b hb q=>by
   rcases hb with ⟨h1,h2,h3,h4⟩
   rcases hbl with ⟨h5|h5,_⟩<;>omega
  have lp:LenP (PRm hN.next bi H b0) g h2:=LenP.of K2 pr
  have E2:MemE hN bi mb H b0 ms h2 w7 h1.next (vs' ++ [ms[i].recs]):=by
   have mb0:=Q.mb0
   have nx:=E.nx
   have b0H:=Q.b0H
   refine ⟨E.K.also K2 (fun d hd q=>by omega),Nat.le_trans E.nx K2.next,K2.dv E.gm (fun q=>by
    have q:mb=bl':=q
    rcases hbl with ⟨h5|h5,_⟩<;>omega),fun m hm=>⟨(E.by_ m hm).1.eW K2 pb,(E.by_ m hm).2.eW K2 pb⟩,fun m hm=>(E.rm m hm).eW lp,ll2,⟨.inr (by omega),by omega⟩,fun u hu => ?_⟩
   rcases List.mem_append.1 hu with h|h
   ·obtain ⟨n,hn,r⟩:=E.vr u h
    exact ⟨n,hn,r.eW lp⟩
   ·rw [List.mem_singleton.1 h]
    exact ⟨_,Q.nr _ (List.getElem_mem hi),(E.rm _ (List.getElem_mem hi)).eW lp⟩
  simp -implicitDefEqProofs only [decide_eq_true hi,y8',y10,ix,aA,l42,eb,e2,ad,af]
  refine bJ (mem_lo Q E2 hi (s:=s) y8' (by first|rfl|exact y10) rfl) ?_
  rintro ex z g3 ⟨rfl,E3,z3,z6,z7,z8,z10⟩
  have z8':z 8=y 8:=z8
  have z10':z 10=y 10:=z10
  simp -implicitDefEqProofs only [bn,b13_28e,t13k13_26_eq]
  unfold t13k13_26
  simp -implicitDefEqProofs only [ad]
  refine bJ (mem_hi Q E3 hi (s:=s) (z8'.trans y8') (by first|rfl|exact z10'.trans y10) rfl) ?_
  rintro ex t g4 ⟨rfl,E4,t3,t6,t7,t8,t10⟩
  have t10':t 10=z 10:=t10
  simp -implicitDefEqProofs only [bn,b13_37e,t13k13_23_eq]
  unfold t13k13_23
  have a10:bin Tryd.prog .add 3 (ai i) (.int .i64 1)=some (ai (i+1)):=ff (by omega)
  simp -implicitDefEqProofs only [t10'.trans (z10'.trans y10),a10,ad,af]
  refine eS.next (k-1) (by omega) ⟨i+1,h1.next,vs' ++ [ms[i].recs],by omega,?_,by rw [List.length_append,List.length_singleton];omega,?_,?_,?_,rfl⟩
  ·show MemE hN bi mb H b0 ms g4 (t 7) _ _
   have q7:t 7=w7:=t7.trans z7
   rw [q7]
   exact E4
  ·exact (t3.trans z3).trans y3
  ·exact (t6.trans z6).trans y6
  ·exact (t8.trans z8').trans y8
 ·simp -implicitDefEqProofs only [decide_eq_false hi,ad]
  exact eS.out 0 ⟨rfl,y3,y6,bl',vs',E,by omega⟩
end
end Go.Proofs.YtdnahgfgoajmcaaDoor

namespace Go.Proofs.YtdnahgfgoajmcaaDoor
open Go Go.Abs
attribute [local congr] aj
theorem is15:cj Tryd.prog 15 Tryd.f15:=⟨by kernel_rfl,by kernel_rfl,by kernel_rfl,by kernel_rfl⟩
theorem r26L {h:ab} (hG:4≤h.n0) {v:Value} {L:List ak} (x:RcS h v L) (hl:L.length≤1000000) : ∃ v' h',CW 26 [v] h=some (v',h')∧Old h h'∧fk h' h.next v' L:=by
 have o1:Old h (h.alloc []):=Kept.alloc _ _ _
 have r0:fk (h.alloc []) h.next (.slice (some ⟨h.next,0,none⟩) 0 0) []:=⟨(fun _ h=>by cases h),h.next,none,rfl,by rw [ab.aH,if_pos rfl];rfl,Nat.le_refl _,.inl ⟨rfl,rfl⟩⟩
 obtain ⟨v',h',e,r,k,_⟩:=r0.pushL (x.mono o1) (by rw [o1.n0];exact h.ax) o1.next (by decide) hl
 rw [List.nil_append] at r
 have b0:du 39 (.agg #[(.int .u8 0),(.int .u8 0),(.int .u8 0),(.int .u8 0),(.int .u8 0),(.int .u8 0),(.int .u8 0),(.int .u8 0),(.int .u8 0),(.int .u8 0),(.int .u8 0),(.int .u8 0),(.int .u8 0),(.int .u8 0),(.int .u8 0),(.int .u8 0),(.int .u8 0),(.int .u8 0),(.int .u8 0),(.int .u8 0),(.int .u8 0),(.int .u8 0),(.int .u8 0),(.int .u8 0),(.int .u8 0),(.int .u8 0),(.int .u8 0),(.int .u8 0),(.int .u8 0),(.int .u8 0),(.int .u8 0),(.int .u8 0),(.int .u8 0),(.int .i64 0),(.int .u64 0),(.int .u64 0),(.bool false),(.int .i64 0),(.int .i64 0)]) 0 [] h=some (.slice (some ⟨h.next,0,none⟩) 0 0,h.alloc []):=rfl
 refine ⟨v',h',aG is26 hG rfl ((t26_eq _ _ _).trans ?_),Old.bN o1 k (Nat.le_refl _),r⟩
 unfold t26
 simp -implicitDefEqProofs only [b0,e,ad,af]
theorem merged_nil:merged [] [] = []:=List.eq_nil_of_length_eq_zero (by
 unfold merged
 simp only [List.append_nil]
 rw [(eu _).length_eq]
 rfl)
theorem r15 {h:ab} (hG:4≤h.n0) {v:Value} {L:List ak} (x:RcS h v L) (vr : ∀ r∈L,fA r=true) (hl:L.length≤500000) :
  ∃ vb h',CV 15 [v] h=some (.tuple #[ptr vb 0,.int .i64 0],h')∧IvH h' vb (merged [] L)∧Old h h'∧h.next≤vb:=by
 have e1:=CV_up (f:=33) rfl (by decide) (r33 hG)
 have o1:Old h (h.alloc [.slice none 0 0]):=Kept.alloc _ _ _
 have i1:IvH (h.alloc [.slice none 0 0]) h.next []:=⟨h.ax,⟨.slice none 0 0,by rw [ab.aH,if_pos rfl],⟨(fun _ h=>by cases h),none,0,rfl,fun _=>rfl,eF (P := []) (fun _ h=>by cases h),fun h=>absurd h (Nat.lt_irrefl 0)⟩,.inl rfl⟩,(fun _ h=>by cases h),.nil⟩
 generalize h.alloc [.slice none 0 0]=h1 at *
 obtain ⟨v2,h2,e2,o2,r2⟩:=r26L (h:=h1) (by rw [o1.n0];exact hG) (x.mono o1) (by omega)
 have e2:=CV_up (f:=26) rfl (by decide) e2
 obtain ⟨h3,e3,i3,k3⟩:=r25 (i1.bM o2) r2.rcs.rsl vr (by decide) hl
 refine ⟨h.next,h3,CV_body is15 hG rfl (by decide) ((t15_eq _ _ _).trans ?_),i3,Old.bN (o1.trans o2) k3 (Nat.le_refl _),Nat.le_refl _⟩
 unfold t15
 simp -implicitDefEqProofs only [e1,nil25,e2,e3,ad,af]
theorem fk.keep2 {h h':ab} {N:Nat} {v w:Value} {L:List ak} {c:Nat} (x:fk h N v L) (k:Kept h h' (· = c)) (hc:h.get c=some [w]):fk h' N v L:=by
 have hb:=x.bL
 have hl:=cZ x.1
 exact x.eW k (fun e=>ne_len hb.2 hc (by omega) e)
end Go.Proofs.YtdnahgfgoajmcaaDoor

namespace Go.Proofs.YtdnahgfgoajmcaaDoor
open Go Go.Abs
attribute [local congr] aj
theorem merged_len (A B:List ak):(merged A B).length≤A.length+B.length:=by
 have h1:=newest_len (A++B)
 rw [List.length_append] at h1
 have h2:=List.length_filter_le (fp (eI (A++B))) (eI (A++B))
 show (sortR _).length≤_
 rw [(eu _).length_eq]
 omega
def Is (T P:List ak):Prop := ∀ x,x∈T↔Nf P x
theorem right_vld {Ls:List (List ak)} (h:rightB Ls=true):Ls.length≤40∧(∀ L∈Ls,L.length≤120 ∧ ∀ r∈L,fA r=true)∧Ls.flatten.length≤120:=by
 unfold rightB at h
 simp only [Bool.and_eq_true,decide_eq_true_eq,List.all_eq_true] at h
 exact ⟨h.1.1,fun L hL=>⟨(h.1.2 L hL).1,(h.1.2 L hL).2⟩,h.2⟩
end Go.Proofs.YtdnahgfgoajmcaaDoor

namespace Go.Proofs.YtdnahgfgoajmcaaDoor
open Go Go.Abs
attribute [local congr] aj
theorem nil_rcs (h:ab):RcS h (.slice none 0 0) []:=⟨(fun _ h=>by cases h),none,0,rfl,(fun _=>rfl),eF (P := []) (fun _ h=>by cases h),fun h=>absurd h (Nat.lt_irrefl 0)⟩
theorem nqE (n:Int):bin Tryd.prog .neq 26 (.int .i64 n) (.int .i64 n)=some (.bool false):=by rw [cz];simp
end Go.Proofs.YtdnahgfgoajmcaaDoor

namespace Go.Proofs.YtdnahgfgoajmcaaDoor
open Go Go.Abs
attribute [local congr] aj
theorem lls_one {h:ab} {v:Value} {L:List ak} (x:RcS h v L) : ∃ w h',du 1 (.slice none 0 0) 1 [(0,v)] h=some (w,h')∧Old h h'∧LLS h' w [L]:=by
 have x':=x
 obtain ⟨hd,a,d,rfl,hn,ht,h0⟩:=x
 have o1:Old h (h.alloc [.slice a L.length d]):=Kept.alloc _ _ _
 have g1:(h.alloc [.slice a L.length d]).get h.next=some [.slice a L.length d]:=by rw [ab.aH,if_pos rfl]
 refine ⟨.slice (some ⟨h.next,0,none⟩) 1 1,h.alloc [.slice a L.length d],rfl,o1,⟨_,_,rfl⟩,fun i hi => ?_⟩
 have hi':i<1:=hi
 obtain rfl:i=0:=by omega
 refine ⟨h.next,0,.slice a L.length d,rfl,by have:(h.alloc [.slice a L.length d]).next=h.next+1:=rfl;omega,fun g e=>ba (e.trans g1) rfl rfl,x'.mono o1⟩
end Go.Proofs.YtdnahgfgoajmcaaDoor

namespace Go.Proofs.YtdnahgfgoajmcaaDoor
open Go Go.Abs
attribute [local congr] aj
structure MemL (hN:ab) (bi H b0:Nat) (g:ab) (v7:Value) (bl:Nat) (vs:List Value):Prop where
 K:Kept hN g (· = bi)
 ll:LLw g v7 bl vs
 lb:(bl=b0∨H≤bl)∧hN.next≤bl
 vr : ∀ u∈vs,∃ n,n≤1000∧Room (PRm hN.next bi H b0) g 39 u n
theorem bldz:ep zrC []=some (dh ak.z):=rfl
section
variable {hN:ab} {bi H b0:Nat} (n0:hN.n0≤bi) (biN:bi<hN.next)
include n0 biN
set_option maxRecDepth 100000 in
theorem mem_in {C:ae} {g0:ab} {v7:Value} {bl:Nat} {vs:List Value} (E0:MemL hN bi H b0 g0 v7 bl vs) {i:Nat} (hi:i<vs.length) (hvs:vs.length≤900) {x:Nat→Value} (x7:x 7=v7) (x13:x 13=ai i) (x14:x 14=ai 0) :
  Fin 135 (fun ex y g=>ex = .exit 8∧MemL hN bi H b0 g v7 bl vs∧y 3=x 3∧y 6=x 6∧y 7=x 7∧y 13=x 13) (iter (au Tryd.prog C (partOf Tryd.f13 [1,1,1,1,1,1,1,1,1,1,0,1,0,0,1,0,0,1,0,0])) rounds (aN 135 x) g0):=by
 obtain ⟨n,hn,r0⟩:=E0.vr _ (List.getElem_mem hi)
 refine bH (t13l13_1111111111010010010_eq C) (Inv:=fun k y g => ∃ j,j+k=n∧MemL hN bi H b0 g v7 bl vs∧Room (PRm hN.next bi H b0) g 39 vs[i] n∧y 3=x 3∧y 6=x 6∧y 7=x 7∧y 13=x 13∧y 14=ai j) ?_ n (by have:rounds=18446744073709551616:=rfl;omega) ⟨0,by omega,E0,r0,rfl,rfl,rfl,rfl,x14⟩
 rintro k y g ⟨j,hjk,E,r,y3,y6,y7,y13,y14⟩
 obtain ⟨s,ev,gb,h0,hs⟩:=E.ll
 have y7':=(y7.trans x7).trans ev
 have y13':=y13.trans x13
 have ix:cd 1 (.slice (some ⟨bl,0,s⟩) vs.length vs.length) (ai i)=some (ptr bl i):=by
  unfold cd ai
  simp only
  rw [if_pos (by omega),Int.toNat_natCast,Nat.zero_add,Nat.mul_one]
 have hlen:=r.len
 have lu:ld1 (ptr bl i) g=some (vs[i],g):=ba gb (List.getElem?_eq_getElem hi) (by
  obtain ⟨⟨a,c,e⟩,_⟩:=r
  rw [e];rfl)
 unfold de
 simp -implicitDefEqProofs only [y7',y13',y14,ix,lu,hlen,lss3,ad,af]
 by_cases hj:j<n
 ·obtain ⟨⟨ra,rc,re⟩,h2⟩:=r
  rcases h2 with h2|⟨b,off,sp,c,kk,e,hk,hl,hP⟩
  ·omega
  ·have hm:=mul_le (z:=39) hj
   have hbn:g.n0≤b:=by
    rw [E.K.n0]
    rcases hP.1 with q|q<;>omega
   obtain ⟨g',k',e3,K3,q3,l3⟩:=stored_mid (o:=off+j*39) (n:=39) (k':=recC ak.z) hk hbn (by omega) (bm ak.z_wf).1 (bP ak.z_wf).all.2.1
   have ix2:cd 39 vs[i] (ai j)=some (ptr b (off+j*39)):=by
    rw [e]
    unfold cd ai
    simp only
    rw [if_pos (by omega),Int.toNat_natCast]
   have a14:bin Tryd.prog .add 3 (ai j) (.int .i64 1)=some (ai (j+1)):=ff (by omega)
   have hbl:bl≠b:=by
    obtain ⟨h1,h2,h3⟩:=hP
    rcases E.lb with ⟨h4|h4,h5⟩<;>omega
   have lp:LenP (PRm hN.next bi H b0) g g':=LenP.set K3 hk q3 l3
   have E':MemL hN bi H b0 g' v7 bl vs:=by
    refine ⟨E.K.also K3 (fun d hd q => ?_),⟨s,ev,K3.dv gb hbl,h0,hs⟩,E.lb,fun u hu => ?_⟩
    ·have q:d=b:=q
     rcases hP.1 with h|h
     ·exact q.trans h
     ·omega
    ·obtain ⟨n',hn',r'⟩:=E.vr u hu
     exact ⟨n',hn',r'.eW lp⟩
   have rr:Room (PRm hN.next bi H b0) g' 39 vs[i] n:=Room.eW ⟨⟨ra,rc,re⟩,.inr ⟨b,off,sp,c,kk,e,hk,hl,hP⟩⟩ lp
   have bz:ep zrC []=some (dh ak.z):=bldz
   simp -implicitDefEqProofs only [decide_eq_true hj,y7',y13',y14,ix,lu,bz,ix2,e3,a14,ad,af]
   exact eS.next (k-1) (by omega) ⟨j+1,by omega,E',rr,y3,y6,y7,y13,rfl⟩
 ·simp -implicitDefEqProofs only [decide_eq_false hj,ad]
  exact eS.out 8 ⟨rfl,E,y3,y6,y7,y13⟩
set_option maxRecDepth 100000 in
theorem mem_loop2 {C:ae} {g0:ab} {v7:Value} {bl:Nat} {vs:List Value} (E0:MemL hN bi H b0 g0 v7 bl vs) (hvs:vs.length≤900) {x:Nat→Value} (x7:x 7=v7) (x13:x 13=ai 0) :
  Fin 135 (fun ex y g=>ex = .exit 6∧y 3=x 3∧y 6=x 6∧Kept hN g (· = bi)) (iter (au Tryd.prog C (partOf Tryd.f13 [1,1,1,1,1,1,1,1,1,1,0,1,0,0])) rounds (aN 135 x) g0):=by
 refine bH (t13l13_1111111111010_eq C) (Inv:=fun k y g => ∃ i,i+k=vs.length∧MemL hN bi H b0 g v7 bl vs∧y 3=x 3∧y 6=x 6∧y 7=x 7∧y 13=ai i) ?_ vs.length (by have:rounds=18446744073709551616:=rfl;omega) ⟨0,by omega,E0,rfl,rfl,rfl,x13⟩
 rintro k y g ⟨i,hik,E,y3,y6,y7,y13⟩
 have ln:cx (y 7)=some (ai vs.length):=by
  obtain ⟨s,ev,_⟩:=E.ll
  rw [y7.trans x7,ev];rfl
 unfold eJ
 simp -implicitDefEqProofs only [y13,ln,lss3,ad,af]
 by_cases hi:i<vs.length
 ·simp -implicitDefEqProofs only [decide_eq_true hi,ad]
  refine bJ (mem_in n0 biN E hi hvs (by first|rfl|exact y7.trans x7) (by first|rfl|exact y13) rfl) ?_
  rintro ex z g3 ⟨rfl,E3,z3,z6,z7,z13⟩
  have z13':z 13=y 13:=z13
  simp -implicitDefEqProofs only [bn,b13_35e,t13k13_32_eq]
  unfold t13k13_32
  have a13:bin Tryd.prog .add 3 (ai i) (.int .i64 1)=some (ai (i+1)):=ff (by omega)
  simp -implicitDefEqProofs only [z13'.trans y13,a13,ad,af]
  exact eS.next (k-1) (by omega) ⟨i+1,by omega,E3,z3.trans y3,z6.trans y6,z7.trans y7,rfl⟩
 ·simp -implicitDefEqProofs only [decide_eq_false hi,ad]
  exact eS.out 6 ⟨rfl,y3,y6,E.K⟩
end
theorem is13:cj Tryd.prog 13 Tryd.f13:=⟨by kernel_rfl,by kernel_rfl,by kernel_rfl,by kernel_rfl⟩
theorem b13_17e (C:ae) (e:Env) (h:ab):b13_17 C 0 e h=k13_15 C e h:=rfl
theorem b13_20e (C:ae) (e:Env) (h:ab):b13_20 C 6 e h=k13_18 C e h:=rfl
theorem inR_nil (r:ak):inR [] [] r=true:=by
 unfold inR cmpB
 have:keyU r=UInt8.ofNat r.kind::((r.obj ++ [i8 r.aQ]).map UInt8.ofNat):=rfl
 rw [this]
 rfl
theorem filter_nil (S:List ak):S.filter (inR [] [])=S:=by
 rw [List.filter_eq_self]
 exact fun r _=>inR_nil r
theorem r23L {h:ab} (hG:4≤h.n0) {vb:Nat} {va:Value} {L:List ak} (gv:h.get vb=some [va]) (x:RcS h va L) (hn:nilOk va) (hl:L.length≤1000000) : ∃ v' h',CW 23 [ptr vb 0] h=some (v',h')∧Old h h'∧fF 39 h' h.next v' L.length (aY L):=by
 obtain ⟨v',h',e,o,r⟩:=r57L hG x hn hl
 have l1:ld1 (ptr vb 0) h=some (va,h):=ba gv rfl (hole_nil hn)
 refine ⟨v',h',aG is23 hG rfl ((t23_eq _ _ _).trans ?_),o,r⟩
 unfold t23
 simp -implicitDefEqProofs only [nil25,bh,aA,Nat.zero_add,l1,e,ad,af]
theorem fF.room {P:Nat→Prop} {h:ab} {N n:Nat} {v:Value} {cs:List Value} (x:fF 39 h N v n cs) (hP : ∀ b,gsB v=some b→P b):Room P h 39 v n:=by
 have hl:=x.len
 rcases x.form with ⟨rfl,rfl⟩|⟨b,s,rfl,g,_⟩
 ·exact ⟨⟨_,_,rfl⟩,.inl rfl⟩
 ·exact ⟨⟨_,_,rfl⟩,.inr ⟨b,0,s,n,cs,rfl,g,by omega,hP b rfl⟩⟩
def askM:dt:=⟨4,0,0,none,0,0,none,0,0,1048576,z32,none,0,0,false⟩
def askA:AM:=⟨4,0,0,[],[],1048576,z32,[],false⟩
theorem bld_ask:ep zML [(0,1,.int .u8 4),(9,1,.int .i64 1048576)]=some (mV askM):=rfl
theorem rep_ask {S:List ak} (hw : ∀ r∈S,ak.Wf r) (h:S.length≤1000):1≤(fG S askA).length∧(fG S askA).length≤2 ∧ ∀ x∈fG S askA,x.L.length≤1000∧x.lo.length≤34∧x.hi.length≤34:=by
 have e:fG S askA=if (decide ((S.length:Int)=1048576)&&decide (fL S=z32))=true then [] else if S.length≤8 then [itemsA [] [] S true] else [sumA S [] (keyB (S.getD (S.length/2) ak.z)),sumA S (keyB (S.getD (S.length/2) ak.z)) []]:=by
  unfold fG askA
  simp only [filter_nil]
 rw [decide_eq_false (by omega : ¬(S.length:Int)=1048576),Bool.false_and,if_neg (by decide)] at e
 rw [e]
 by_cases h8:S.length≤8
 ·rw [if_pos h8]
  refine ⟨Nat.le_refl _,(show (1:Nat)≤2 by decide),fun x hx => ?_⟩
  rw [List.mem_singleton.1 hx]
  exact ⟨h,Nat.zero_le _,Nat.zero_le _⟩
 ·rw [if_neg h8]
  have hlt:S.length/2<S.length:=by omega
  have hk:(keyB (S.getD (S.length/2) ak.z)).length=34:=by
   rw [List.getD_eq_getElem?_getD,List.getElem?_eq_getElem hlt]
   exact keyB_len (hw _ (List.getElem_mem hlt))
  refine ⟨(show (1:Nat)≤2 by decide),Nat.le_refl _,fun x hx => ?_⟩
  rcases List.mem_cons.1 hx with rfl|hx
  ·exact ⟨Nat.zero_le _,Nat.zero_le _,Nat.le_of_eq hk⟩
  ·rw [List.mem_singleton.1 hx]
   exact ⟨Nat.zero_le _,Nat.le_of_eq hk,Nat.zero_le _⟩
set_option maxRecDepth 100000 in
set_option maxHeartbeats 2000000 in
theorem r13 {h:ab} (hG:4≤h.n0) (hz:h.get 3=some bB) {v:Value} {L:List ak} (hv:RcS h v L) : ∃ h',CV 13 [v] h=some (.bool true,h'):=by
 obtain ⟨w1,h1,e1,o1,S1⟩:=lls_one hv
 obtain ⟨h2,e2,o2⟩:=r24 (h:=h1) (by rw [o1.n0];exact hG) S1
 have e2:=CV_up (f:=24) rfl (by decide) e2
 have O2:=o1.trans o2
 have e14 : ∀ g,Old h g→CV 14 [] g=some (.bool true,g):=fun g og=>r14V (Old.get og hz)
 have key : ∃ out:Out,t13 CV v h=out ∧ ∃ h',out=some (.bool true,h'):=by
  refine ⟨_,rfl,?_⟩
  unfold t13
  cases hr:rightB [L] with
  |false=>
   rw [hr] at e2
   simp -implicitDefEqProofs only [e1,e2,bY,Bool.not_false,e14 h2 O2,ad,af]
   exact ⟨h2,rfl⟩
  |true=>
   rw [hr] at e2
   obtain ⟨hr1,hr2,hr3⟩:=right_vld hr
   have hL:=hr2 L List.mem_cons_self
   have hLl:L.length≤120:=hL.1
   obtain ⟨a,h3,e3,I3,o3,ha⟩:=r15 (h:=h2) (by rw [O2.n0];exact hG) (nil_rcs h2) (fun _ h=>by cases h) (by decide)
   rw [merged_nil] at I3
   have O3:=O2.trans o3
   have x0:bf (.tuple #[ptr a 0,.int .i64 0]) 0=some (ptr a 0):=rfl
   have x1:bf (.tuple #[ptr a 0,.int .i64 0]) 1=some (.int .i64 0):=rfl
   obtain ⟨w5,h4,e4,o4,r4⟩:=r26L (h:=h3) (by rw [O3.n0];exact hG) (hv.mono O3) (by omega)
   have e4:=CV_up (f:=26) rfl (by decide) e4
   have O4:=O3.trans o4
   have I4:=I3.bM o4
   obtain ⟨h5,e5,I5,k5,new5⟩:=r25B I4 r4.rcs.rsl hL.2 (by decide) (by omega)
   have O5:Old h h5:=O4.also k5 (fun d hd q=>by have:=O2.next;omega)
   obtain ⟨wa,ga⟩:=I4.cell
   have r5:=r4.keep2 k5 ga
   obtain ⟨va,gv,rv,nv⟩:=I5.ex
   have ml:=merged_len [] L
   rw [List.length_nil] at ml
   have ks:=I5.ks
   have vl:=I5.vld
   have nva:=new5 va
   have hbi:=r4.bL
   have hbi2:=h4.aF hbi.2
   have n0a:=I3.n0
   have alt:a<h3.next:=by
    obtain ⟨w,gw⟩:=I3.cell
    exact h3.aF gw
   generalize merged [] L=S at *
   have hS:S.length≤120:=by omega
   obtain ⟨w6,h6,e6,o6,r6⟩:=r23L (h:=h5) (by rw [O5.n0];exact hG) gv rv nv (by omega)
   have e6:=CV_up (f:=23) rfl (by decide) e6
   have O6:=O5.trans o6
   obtain ⟨w7,h7,e7,o7,r7⟩:=r23L (h:=h6) (by rw [O6.n0];exact hG) (Old.get o6 gv) (rv.mono o6) nv (by omega)
   have e7:=CV_up (f:=23) rfl (by decide) e7
   have O7:=O6.trans o7
   obtain ⟨w8,h8,e8,o8,r8,_⟩:=r20L (h:=h7) (cl:=0) (ch:=0) (al:=none) (ah:=none) (nl:=0) (nh:=0) (lo := []) (hi := []) (by rw [O7.n0];exact hG) (Old.get (o6.trans o7) gv) (rv.mono (o6.trans o7)) nv ks (by omega) rfl rfl
   have e8:=CV_up (f:=20) rfl (by decide) e8
   rw [filter_nil] at r8
   have O8:=O7.trans o8
   have n4:=o4.next;have n5:=k5.next;have n6:=o6.next;have n7:=o7.next;have n8:=o8.next
   obtain ⟨a5,c5,rfl⟩ : ∃ a c,w5 = .slice a L.length c:=by
    obtain ⟨_,b,s,rfl,_⟩:=r4
    exact ⟨_,_,rfl⟩
   have sl : ∀ {N n:Nat} {g:ab} {w:Value} {cs:List Value},fF 39 g N w n cs → ∃ a c,w = .slice a n c:=fun x=>by
    rcases x.form with ⟨rfl,rfl⟩|⟨b,s,rfl,_⟩
    ·exact ⟨_,_,rfl⟩
    ·exact ⟨_,_,rfl⟩
   obtain ⟨a7,c7,rfl⟩:=sl r7
   obtain ⟨a8,c8,rfl⟩:=sl r8
   have eb:du 1 (.slice none 0 0) 3 [(0,.slice a5 L.length c5),(1,.slice a7 S.length c7),(2,.slice a8 S.length c8)] h8=some (.slice (some ⟨h8.next,0,none⟩) 3 3,h8.alloc [.slice a5 L.length c5,.slice a7 S.length c7,.slice a8 S.length c8]):=rfl
   have o9:Old h8 (h8.alloc [.slice a5 L.length c5,.slice a7 S.length c7,.slice a8 S.length c8]):=Kept.alloc _ _ _
   have g9:(h8.alloc [.slice a5 L.length c5,.slice a7 S.length c7,.slice a8 S.length c8]).get h8.next=some [.slice a5 L.length c5,.slice a7 S.length c7,.slice a8 S.length c8]:=by rw [ab.aH,if_pos rfl]
   have nn9:(h8.alloc [.slice a5 L.length c5,.slice a7 S.length c7,.slice a8 S.length c8]).next=h8.next+1:=rfl
   generalize h8.alloc [.slice a5 L.length c5,.slice a7 S.length c7,.slice a8 S.length c8]=h9 at *
   have O9:=O8.trans o9
   have o69:=(o7.trans o8).trans o9
   have X:MIs h9 askM askA:=⟨rfl,rfl,rfl,rfl,rfl,rfl,z32_ok,rfl,rfl,nil_rc h9⟩
   obtain ⟨w10,ms,h10,e10,o10,A⟩:=r50s (h:=h9) (by rw [O9.n0];exact hG) (Old.get O9 hz) (Old.get (o6.trans o69) gv) (rv.mono (o6.trans o69)) nv ks vl (by omega) X (Nat.zero_le _) (Nat.zero_le _) rfl (by decide)
   have O10:=O9.trans o10
   have n10:=o10.next
   have bz:=bld_ask
   have y0:bf (.tuple #[w10,.int .i64 0]) 0=some w10:=rfl
   have y1:bf (.tuple #[w10,.int .i64 0]) 1=some (.int .i64 0):=rfl
   have eN : ∀ n:Int,bin Tryd.prog .neq 26 (.int .i64 n) (.int .i64 n)=some (.bool false):=nqE
   simp -implicitDefEqProofs only [e1,e2,bY,Bool.not_true,e3,x0,x1,eN,e4,e5,e6,e7,e8,eb,bz,e10,y0,y1,ad,af]
   obtain ⟨q1,q2,q3⟩:=rep_ask rv.1 (by omega:S.length≤1000)
   have hxs : ∀ x∈(fG S askA).map (aEnds askA.to askA.frm),x.L.length≤1000∧x.lo.length≤34∧x.hi.length≤34:=fun x hx=>by
    obtain ⟨x',hx',rfl⟩:=List.mem_map.1 hx
    exact q3 x' hx'
   have hlen:=A.len
   rw [List.length_map] at hlen
   generalize hxe:(fG S askA).map (aEnds askA.to askA.frm)=xs at *
   obtain ⟨mb,s10,rfl,gm,hmb,bel⟩ : ∃ b s,w10 = .slice (some ⟨b,0,s⟩) ms.length ms.length∧h10.get b=some (msC ms)∧h9.next≤b ∧ ∀ m∈ms,MBel b m:=by
    rcases A.sl with ⟨_,q⟩|q
    ·rw [q] at hlen
     rw [List.length_nil] at hlen
     omega
    ·exact q
   have hmbH:=h10.aF gm
   have at_ : ∀ m∈ms,∃ x,MIs h10 m x∧MOwn h10 h9.next m x.L.length (aY x.L)∧x∈xs:=fun m hm=>by
    obtain ⟨i,hi,rfl⟩:=List.mem_iff_getElem.1 hm
    have hi':i<xs.length:=by rw [←A.len];exact hi
    exact ⟨xs[i],A.is i hi hi',A.own i hi hi',List.getElem_mem hi'⟩
   have nr_ : ∀ m∈ms,∀ x:AM,MOwn h10 h9.next m x.L.length (aY x.L)→m.nr=x.L.length:=fun m _ x o=>by
    rcases o.rs.form with ⟨h1,h2⟩|⟨b,s,h2,_⟩
    ·injection h2 with _ h3 _
     exact h3.trans h1.symm
    ·injection h2 with _ h3 _
   have hbi1:=hbi.1
   have hbg:=hbi.2
   generalize hbe:rlB (.slice a5 L.length c5)=bi at *
   have n0h:h6.n0=h.n0:=O6.n0
   have n03:=h3.ax
   rw [O3.n0] at n03
   have Q:MemC h6 bi mb h10.next h8.next ms:=by
    refine ⟨by omega,by omega,by omega,by omega,by omega,hmbH,by omega,fun m hm => ?_,fun m hm => ?_,fun m hm => ?_⟩
    ·obtain ⟨x,hx,_⟩:=at_ m hm
     rw [hx.root]
     exact hx.d32
    ·obtain ⟨x,hx,ho,hxm⟩:=at_ m hm
     rw [nr_ m hm x ho]
     exact (hxs x hxm).1
    ·obtain ⟨x,hx,ho,hxm⟩:=at_ m hm
     have h1:=(aD hx.lo).1
     have h2:=(aD hx.hi).1
     have h3:=hxs x hxm
     omega
   have o610:=o69.trans o10
   have rL:fk h10 h3.next (.slice a5 L.length c5) L:=(r5.bM o6).bM o610
   have E0:MemE h6 bi mb h10.next h8.next ms h10 (.slice (some ⟨h8.next,0,none⟩) 3 3) h8.next [.slice a5 L.length c5,.slice a7 S.length c7,.slice a8 S.length c8]:=by
    refine ⟨o610.mono (fun _ _ h=>h.elim),Nat.le_refl _,gm,fun m hm => ?_,fun m hm => ?_,⟨none,rfl,Old.get o10 g9,Nat.succ_pos _,.inl rfl⟩,⟨.inl rfl,by omega⟩,fun u hu => ?_⟩
    ·obtain ⟨x,hx,ho,hxm⟩:=at_ m hm
     have hb:=bel m hm
     refine ⟨ByS.of hx.lo fun y hy => ?_,ByS.of hx.hi fun y hy => ?_⟩
     ·have h1:=ho.lo y hy
      have h2:=hb.1 y hy
      exact ⟨by omega,by omega,by omega,by omega⟩
     ·have h1:=ho.hi y hy
      have h2:=hb.2.1 y hy
      exact ⟨by omega,by omega,by omega,by omega⟩
    ·obtain ⟨x,hx,ho,hxm⟩:=at_ m hm
     rw [nr_ m hm x ho]
     refine ho.rs.room fun b hb => ?_
     have h1:=ho.rs.bL hb
     exact ⟨.inr (by omega),by omega,by omega⟩
    ·rcases List.mem_cons.1 hu with rfl|hu
     ·refine ⟨L.length,by omega,⟨_,_,rfl⟩,?_⟩
      have hlc:=cZ rL.1
      obtain ⟨_,b,s,e,gg,hb,_⟩:=rL
      have eb':b=bi:=by rw [←hbe,e];rfl
      exact .inr ⟨b,0,s,_,_,e,gg,by omega,⟨.inl eb',by omega,by omega⟩⟩
     ·rcases List.mem_cons.1 hu with rfl|hu
      ·refine ⟨S.length,by omega,(r7.bM ((o8.trans o9).trans o10)).room fun b hb => ?_⟩
       have h1:=r7.bL hb
       exact ⟨.inr h1.1,by omega,by omega⟩
      ·rw [List.mem_singleton.1 hu]
       refine ⟨S.length,by omega,(r8.bM (o9.trans o10)).room fun b hb => ?_⟩
       have h1:=r8.bL hb
       exact ⟨.inr (by omega),by omega,by omega⟩
   refine bJ (Q:=fun o:Out => ∃ h',o=some (.bool true,h')) (mem_loop1 (C:=CV) Q E0 (s:=s10) (by simp only [List.length_cons,List.length_nil];omega) rfl rfl rfl) ?_
   rintro ex z g ⟨rfl,z3,z6,bl',vs',E1,hv'⟩
   simp -implicitDefEqProofs only [bn,b13_17e,t13k13_15_eq]
   unfold t13k13_15
   simp -implicitDefEqProofs only [ad]
   refine bJ (Q:=fun o:Out => ∃ h',o=some (.bool true,h')) (mem_loop2 (C:=CV) Q.n0 Q.biN ⟨E1.K,E1.ll,E1.lb,E1.vr⟩ hv' rfl rfl) ?_
   rintro ex t g2 ⟨rfl,t3,t6,K⟩
   simp -implicitDefEqProofs only [bn,b13_20e,t13k13_18_eq]
   unfold t13k13_18
   have t3':t 3=ptr a 0:=t3.trans z3
   have t6':t 6=w6:=t6.trans z6
   have hG2:4≤g2.n0:=by rw [K.n0,n0h];exact hG
   have gv6:=Old.get o6 gv
   have gvF:g2.get a=some [va]:=K.dv gv6 (by omega)
   have rvF:RcS g2 va S:=(rv.mono o6).keepS K (fun q=>by
    have:=nva bi gv q
    omega)
   have wF:fF 39 g2 h5.next w6 S.length (aY S):=r6.eW K (fun b hb q=>by
    have h1:=r6.bL hb
    have q:b=bi:=q
    omega)
   obtain ⟨f1,k1,d1,p1,u1⟩:=r23L hG2 gvF rvF nv (by omega)
   have d1:=CV_up (f:=23) rfl (by decide) d1
   have d2:=CV_up (f:=19) rfl (by decide) (r19 (h:=k1) (by rw [p1.n0];exact hG2) (u1.rc rv.1).rsl ((wF.bM p1).rc rv.1).rsl (by omega))
   rw [decide_eq_true rfl] at d2
   obtain ⟨f3,k3,d3,p3,u3,_⟩:=r20L (h:=k1) (cl:=0) (ch:=0) (al:=none) (ah:=none) (nl:=0) (nh:=0) (lo := []) (hi := []) (by rw [p1.n0];exact hG2) (Old.get p1 gvF) (rvF.mono p1) nv ks (by omega) rfl rfl
   have d3:=CV_up (f:=20) rfl (by decide) d3
   rw [filter_nil] at u3
   have d4:=CV_up (f:=19) rfl (by decide) (r19 (h:=k3) (by rw [(p1.trans p3).n0];exact hG2) (u3.rc rv.1).rsl ((wF.bM (p1.trans p3)).rc rv.1).rsl (by omega))
   rw [decide_eq_true rfl] at d4
   have d5:CV 14 [] k3=some (.bool true,k3):=r14V (Old.get (p1.trans p3) (K.dv (Old.get O6 hz) (by omega)))
   simp -implicitDefEqProofs only [t3',t6',d1,d2,bt,aW,d3,d4,if_true,d5,ad,af]
   exact ⟨k3,rfl⟩
 obtain ⟨q,e,h',e'⟩:=key
 exact ⟨h',CV_body is13 hG (by decide) (by decide) ((t13_eq _ _ _).trans (e.trans e'))⟩
end Go.Proofs.YtdnahgfgoajmcaaDoor

