/-
  A part of the proof, spaces and names shortened by a program (a claim may hold 1,500,000 bytes).
  Conditions: as each theorem states.
-/
import Derived.Test.YtdnahgfgoajmcaaDoorG17
namespace Go.Proofs.YtdnahgfgoajmcaaDoor
open Go Go.Abs
open Go.Lib (compareBytes)
attribute [local congr] aj
theorem is111:b9 Tryd.prog 111 Tryd.f111:=⟨by kernel_rfl,by kernel_rfl,by kernel_rfl,by kernel_rfl⟩
theorem is112:b9 Tryd.prog 112 Tryd.f112:=⟨by kernel_rfl,by kernel_rfl,by kernel_rfl,by kernel_rfl⟩
theorem is56:b9 Tryd.prog 56 Tryd.f56:=⟨by kernel_rfl,by kernel_rfl,by kernel_rfl,by kernel_rfl⟩
theorem b111_3e (C:ae) (e:Env) (h:ab):b111_3 C 0 e h=k111_2 C e h:=rfl
theorem shr111 (i:Nat):bin Tryd.prog .shr 111 (.int .u64 (i:Int)) (.int .u64 1)=some (.int .u64 ((i/2:Nat):Int)):=ff Tryd.prog 111 (k := .u64) (k' := .u64) (b:=1) (by decide)
theorem add33 {i j:Nat} (h:i+j≤10000000):bin Tryd.prog .add 3 (ai i) (ai j)=some (ai (i+j)):=by
 unfold ai
 rw [bin_add,wrap_i64 (by omega) (by omega)]
 congr 2
theorem cvU {i:Nat} (h:i≤10000000) (g:ab):cvI .u64 (ai i) g=some (.int .u64 (i:Int),g):=by
 unfold ai
 rw [eP]
 congr 3
 show ((i:Int)%18446744073709551616)=_
 omega
theorem cvN {i:Nat} (h:i≤10000000) (g:ab):cvI .i64 (.int .u64 (i:Int)) g=some (ai i,g):=by
 unfold ai
 rw [eP,wrap_i64 (by omega) (by omega)]
set_option maxRecDepth 100000 in
theorem r111 {h:ab} (hG:4≤h.n0) {fv:Value} {n:Nat} (hn:n≤1000000) (p:Nat→Bool) (hp : ∀ i,i<n → ∀ g,Old h g → ∃ g',callA Tryd.prog CW fv [ai i] g=some (.bool (p i),g')∧Old g g') (mono : ∀ i j,i≤j→j<n→p i=true→p j=true) :
  ∃ k h',CW 111 [ai n,fv] h=some (ai k,h')∧Old h h'∧k≤n∧(∀ i,i<k→p i=false) ∧ ∀ i,k≤i→i<n→p i=true:=by
 have key : ∃ q:Out,t111 CW (ai n) fv h=q ∧ ∃ k h',q=some (ai k,h')∧Old h h'∧k≤n∧(∀ i,i<k→p i=false) ∧ ∀ i,k≤i→i<n→p i=true:=by
  refine ⟨_,rfl,?_⟩
  unfold t111
  simp -implicitDefEqProofs only [ad]
  refine bU (n:=26) (fin:=fun ex y g=>ex = .exit 0∧Old h g ∧ ∃ k,y 5=ai k∧k≤n∧(∀ i,i<k→p i=false) ∧ ∀ i,k≤i→i<n→p i=true)
   (Q:=fun q:Out => ∃ k h',q=some (ai k,h')∧Old h h'∧k≤n∧(∀ i,i<k→p i=false) ∧ ∀ i,k≤i→i<n→p i=true)
   (bW (t111l111_1100_eq CW) (Inv:=fun k y g => ∃ i j,i+k=j∧j≤n∧y 1=fv∧y 5=ai i∧y 6=ai j∧Old h g∧(∀ a,a<i→p a=false) ∧ ∀ a,j≤a→a<n→p a=true) ?_ n (by have:rounds=18446744073709551616:=rfl;omega) ⟨0,n,by omega,Nat.le_refl _,rfl,rfl,rfl,Kept.refl _ _,fun a h=>absurd h (Nat.not_lt_zero a),fun a h1 h2=>by omega⟩) ?_
  ·rintro k y g ⟨i,j,hij,hjn,y1,y5,y6,Og,lo,hi⟩
   unfold t111l111_1100
   simp -implicitDefEqProofs only [y5,y6,lss3,ad,af]
   by_cases h1:i<j
   ·have hm1:i≤(i+j)/2:=by omega
    have hm2:(i+j)/2<j:=by omega
    obtain ⟨g',e,o⟩:=hp ((i+j)/2) (by omega) g Og
    simp -implicitDefEqProofs only [decide_eq_true h1,add33 (show i+j≤10000000 by omega),cvU (show i+j≤10000000 by omega),shr111,cvN (show (i+j)/2≤10000000 by omega),y1,e,bR,ad,af]
    cases hpm:p ((i+j)/2) with
    |true=>
     simp -implicitDefEqProofs only [Bool.not_true,ad,af]
     exact Rnd.next ((i+j)/2-i) (by omega) ⟨i,(i+j)/2,by omega,by omega,y1,y5,rfl,Og.trans o,lo,fun a h2 h3=>mono _ _ h2 h3 hpm⟩
    |false=>
     have a5:bin Tryd.prog .add 3 (ai ((i+j)/2)) (.int .i64 1)=some (ai ((i+j)/2+1)):=add31 (by omega)
     simp -implicitDefEqProofs only [Bool.not_false,a5,ad,af]
     refine Rnd.next (j-((i+j)/2+1)) (by omega) ⟨(i+j)/2+1,j,by omega,hjn,y1,rfl,y6,Og.trans o,fun a ha => ?_,hi⟩
     cases hpa:p a with
     |false=>rfl
     |true=>
      have:=mono a ((i+j)/2) (by omega) (by omega) hpa
      rw [hpm] at this
      cases this
   ·simp -implicitDefEqProofs only [decide_eq_false h1,ad]
    refine Rnd.out 0 ⟨rfl,Og,i,y5,by omega,lo,fun a h2 h3=>hi a (by omega) h3⟩
  ·rintro ex z g ⟨rfl,Og,k,z5,q1,q2,q3⟩
   simp -implicitDefEqProofs only [bF,b111_3e,t111k111_2_eq]
   unfold t111k111_2
   rw [z5]
   exact ⟨k,g,rfl,Og,q1,q2,q3⟩
 obtain ⟨q,e,k,h',e',oo⟩:=key
 exact ⟨k,h',aF is111 hG rfl ((t111_eq _ _ _ _).trans (e.trans e')),oo⟩
def cmpB (r:ak) (l:List Nat):Int:=compareBytes (keyU r) (l.map UInt8.ofNat)
theorem ge0 (n:Int):bin Tryd.prog .geq 3 (.int .i64 n) (.int .i64 0)=some (.bool (decide (0≤n))):=by rw [cE]
theorem chk_sl2 (g:ab) (a:Option Addr) (n c:Nat):cy true (some (.slice a n c,g)) (.slice a n c)=true:=by
 show (!true||veq (.slice a n c) (.slice a n c))=true
 simp [veq]
theorem r112 {h:ab} (hG:4≤h.n0) {c2 c3 vb:Nat} {va:Value} {R:List ak} {a:Option Addr} {n c:Nat} {l:List Nat} (g2:h.get c2=some [ptr vb 0]) (gv:h.get vb=some [va]) (RS:RSl h va R) (g3:h.get c3=some [.slice a n c]) (hk:aq a n h=some l) {i:Nat} (hi:i<R.length) :
  ∃ h',CW 112 [ai i,ptr c2 0,ptr c3 0] h=some (.bool (decide (0≤cmpB R[i] l)),h')∧Old h h':=by
 obtain ⟨b,o,ix,wr,ld⟩:=RS.rd hi
 obtain ⟨p,d,h1,e1,s1,o1⟩:=r67 hG wr
 have e2:=r66 (h:=h1) (c:=d) (d:=c) (by rw [o1.n0];exact hG) s1 (Old.bytes o1 hk)
 have l2 : ∀ g,Old h g→ld1 (ptr c2 0) g=some (ptr vb 0,g):=fun g og=>bg (Old.get og g2) rfl rfl
 have lv : ∀ g,Old h g→ld1 (ptr vb 0) g=some (va,g):=fun g og=>bg (Old.get og gv) rfl (by obtain ⟨⟨a,c,rfl⟩,_⟩:=RS;rfl)
 have l3 : ∀ g,Old h g→ld1 (ptr c3 0) g=some (.slice a n c,g):=fun g og=>bg (Old.get og g3) rfl rfl
 refine ⟨h1,aF is112 hG rfl ((t112_eq _ _ _ _ _).trans ?_),o1⟩
 unfold t112
 simp -implicitDefEqProofs only [l2 h (Kept.refl _ _),bA,aE,Nat.zero_add,lv h (Kept.refl _ _),ix,ld h (Kept.refl _ _),e1,l3 h1 o1,e2,ge0,l3 h (Kept.refl _ _),chk_sl2,Bool.and_true,ad,af]
 rfl
theorem call112 (x y z:Value) (h:ab):callA Tryd.prog CW (.func (.func 112) #[] #[y,z]) [x] h=CW 112 [x,y,z] h:=by
 have hf:=Nat.le_of_ble_eq_true fs_124
 unfold callA
 simp only
 generalize Tryd.prog.funcs.size=n at *
 rw [if_pos (show (112:Nat)<n by omega)]
 rfl
theorem box_ptr (b o:Nat) (h:ab):box (ptr b o) h=some (ptr h.next 0,h.alloc [ptr b o]):=rfl
theorem box_sl (a:Option Addr) (n c:Nat) (h:ab):box (.slice a n c) h=some (ptr h.next 0,h.alloc [.slice a n c]):=rfl
theorem ks_lt {R:List ak} (ks:KS R) {i j:Nat} (hij:i<j) (hj:j<R.length):cmpK R[i] R[j]<0:=by
 have h:=ks
 unfold KS at h
 rw [List.pairwise_iff_getElem] at h
 exact h i j (by omega) hj hij
theorem cmpB_mono {a b:ak} {l:List Nat} (h:cmpK a b<0) (h1:0≤cmpB a l):0≤cmpB b l:=by
 unfold cmpB cmpK at *
 have h2:=cb_neg (keyU a) (l.map UInt8.ofNat)
 have h3:=cb_neg (keyU b) (l.map UInt8.ofNat)
 have h4:=cb_neg (keyU a) (keyU b)
 have:=cb_ntrans (l.map UInt8.ofNat)
 by_cases h5:compareBytes (keyU b) (l.map UInt8.ofNat)<0
 ·have:=cb_trans _ _ _ h h5
  omega
 ·omega
theorem r56 {h:ab} (hG:4≤h.n0) {vb:Nat} {va:Value} {R:List ak} (gv:h.get vb=some [va]) (RS:RSl h va R) (ks:KS R) (hR:R.length≤1000000) {a:Option Addr} {n c:Nat} {l:List Nat} (hk:aq a n h=some l) :
  ∃ k h',CW 56 [ptr vb 0,.slice a n c] h=some (ai k,h')∧Old h h'∧k≤R.length∧(∀ i,(hi:i<R.length)→i<k→cmpB R[i] l<0) ∧ ∀ i,(hi:i<R.length)→k≤i→0≤cmpB R[i] l:=by
 have o1:Old h (h.alloc [ptr vb 0]):=Kept.alloc _ _ _
 have b1:=box_ptr vb 0 h
 have g1:(h.alloc [ptr vb 0]).get h.next=some [ptr vb 0]:=by rw [ab.aN,if_pos rfl]
 have n1:(h.alloc [ptr vb 0]).next=h.next+1:=rfl
 generalize h.alloc [ptr vb 0]=h1 at *
 have o2:Old h1 (h1.alloc [.slice a n c]):=Kept.alloc _ _ _
 have b2:=box_sl a n c h1
 have g2:(h1.alloc [.slice a n c]).get h1.next=some [.slice a n c]:=by rw [ab.aN,if_pos rfl]
 generalize h1.alloc [.slice a n c]=h2 at *
 have O2:=o1.trans o2
 have g1':=Old.get o2 g1
 have gv':=Old.get O2 gv
 have hll:=RS.len
 have lv:ld1 (ptr vb 0) h2=some (va,h2):=bg gv' rfl (by obtain ⟨⟨a,c,rfl⟩,_⟩:=RS;rfl)
 have l1:ld1 (ptr h.next 0) h2=some (ptr vb 0,h2):=bg g1' rfl rfl
 have hG2:4≤h2.n0:=by rw [O2.n0];exact hG
 obtain ⟨k,h3,e3,o3,hk1,hk2,hk3⟩:=r111 (h:=h2) hG2 (fv := .func (.func 112) #[] #[ptr h.next 0,ptr h1.next 0]) (n:=R.length) hR (fun i=>decide (0≤cmpB (R.getD i ak.z) l))
  (fun i hi g og=>by
   obtain ⟨g',e,o⟩:=r112 (h:=g) (by rw [og.n0];exact hG2) (Old.get og g1') (Old.get og gv') ((RS.mono O2).mono og) (Old.get og g2) (Old.bytes (O2.trans og) hk) hi
   refine ⟨g',?_,o⟩
   rw [call112,e,List.getD_eq_getElem?_getD,List.getElem?_eq_getElem hi]
   rfl)
  (fun i j hij hj hp=>by
   rcases Nat.eq_or_lt_of_le hij with rfl|hlt
   ·exact hp
   ·have hi:i<R.length:=by omega
    simp only [List.getD_eq_getElem?_getD,List.getElem?_eq_getElem hi,List.getElem?_eq_getElem hj,Option.getD_some,decide_eq_true_eq] at hp ⊢
    exact cmpB_mono (ks_lt ks hlt hj) hp)
 refine ⟨k,h3,aF is56 hG rfl ((t56_eq _ _ _ _).trans ?_),O2.trans o3,hk1,fun i hi hik => ?_,fun i hi hik => ?_⟩
 ·unfold t56
  simp -implicitDefEqProofs only [b1,b2,l1,bA,aE,Nat.zero_add,lv,hll,e3,ad,af]
 ·have:=hk2 i hik
  simp only [List.getD_eq_getElem?_getD,List.getElem?_eq_getElem hi,Option.getD_some,decide_eq_false_iff_not] at this
  omega
 ·have:=hk3 i hik hi
  simp only [List.getD_eq_getElem?_getD,List.getElem?_eq_getElem hi,Option.getD_some,decide_eq_true_eq] at this
  exact this
end Go.Proofs.YtdnahgfgoajmcaaDoor

namespace Go.Proofs.YtdnahgfgoajmcaaDoor
open Go Go.Abs
open Go.Lib (compareBytes)
attribute [local congr] aj
theorem is20:b9 Tryd.prog 20 Tryd.f20:=⟨by kernel_rfl,by kernel_rfl,by kernel_rfl,by kernel_rfl⟩
theorem RcS.part {h:ab} {v:Value} {R:List ak} (x:RcS h v R) (n:nilOk v) {i j:Nat} (hij:i≤j) (hj:j≤R.length) : ∃ v',slR 39 v (some (ai i)) (some (ai j)) none=some v'∧RcS h v' ((R.take j).drop i)∧nilOk v':=by
 obtain ⟨hd,a,d,rfl,hn,ht,h0⟩:=x
 have hd' : ∀ p∈(R.take j).drop i,ak.Wf p:=fun p hp=>hd p (List.mem_of_mem_take (List.mem_of_mem_drop hp))
 rcases n with h1|⟨a',n',c',h1,hc,hs⟩
 ·cases a with
  |some a=>cases h1
  |none=>
   injection h1 with _ e1 e2
   have hR:R = []:=List.length_eq_zero_iff.1 e1
   subst hR
   subst e2
   obtain rfl:j=0:=by rw [List.length_nil] at hj;omega
   obtain rfl:i=0:=by omega
   exact ⟨.slice none 0 0,rfl,⟨hd',none,0,rfl,fun _=>rfl,recsC_typed hd',fun h=>absurd h (Nat.lt_irrefl 0)⟩,.inl rfl⟩
 ·injection h1 with e1 e2 e3
  subst e1 e2 e3
  obtain ⟨b,o,s⟩:=a'
  have hl:((R.take j).drop i).length=j-i:=by rw [List.length_drop,List.length_take];omega
  have hb:bZ R.length d (some (ai i)) (some (ai j)) none=some (i,j,d):=by
   have a1:bx d d none=some d:=rfl
   have a2:bx R.length d (some (ai j))=some j:=by
    unfold bx ai
    simp only
    rw [if_pos (by omega)]
    rfl
   have a3:bx 0 j (some (ai i))=some i:=by
    unfold bx ai
    simp only
    rw [if_pos (by omega)]
    rfl
   unfold bZ
   simp only [a1,a2,a3]
  have hc:R.length≤d:=hc
  have hsl : ∃ o',slR 39 (.slice (some ⟨b,o,s⟩) R.length d) (some (ai i)) (some (ai j)) none=some (.slice (some ⟨b,o',s⟩) (j-i) (d-i))∧(i<d→o'=o+i*39):=by
   unfold slR eE
   cases s with
   |none=>
    simp only [hb]
    by_cases hdi:d=i
    ·exact ⟨o,by rw [if_pos hdi],fun h=>by omega⟩
    ·exact ⟨o+i*39,by rw [if_neg hdi],fun _=>rfl⟩
   |some t=>
    have:t=39:=hs t rfl
    subst this
    simp only [hb]
    exact ⟨o+i*39,by rw [if_pos ⟨True.intro,by decide⟩],fun _=>rfl⟩
  obtain ⟨oo,hsl,hoo⟩:=hsl
  refine ⟨.slice (some ⟨b,oo,s⟩) (j-i) (d-i),hsl,⟨hd',some ⟨b,oo,s⟩,d-i,by rw [hl],(fun h=>by cases h),recsC_typed hd',fun hp => ?_⟩,.inr ⟨_,_,_,rfl,(show j-i≤d-i by omega),hs⟩⟩
  ·rw [hl] at hp
   obtain ⟨b',o',s',k,e,hk,hlen,hcs⟩:=h0 (by omega)
   cases e
   obtain rfl:=hoo (by omega)
   rw [show recK.length=39 from rfl] at hlen hcs
   have h2:(j-i)*39=j*39-i*39:=Nat.sub_mul ..
   have h3:i*39≤j*39:=Nat.mul_le_mul_right _ hij
   have h4:j*39≤R.length*39:=Nat.mul_le_mul_right _ hj
   refine ⟨b,o+i*39,s,k,rfl,hk,by rw [hl,show recK.length=39 from rfl];omega,?_⟩
   rw [hl,show recK.length=39 from rfl]
   have e1:bh ((R.take j).drop i)=((bh R).take (j*39)).drop (i*39):=by
    have lt:(R.take j).length=j:=by rw [List.length_take];omega
    have wt : ∀ p∈R.take j,ak.Wf p:=fun p hp=>hd p (List.mem_of_mem_take hp)
    have q1:bh (R.take j)=(bh R).take (j*39):=by
     conv=>rhs;rw [←List.take_append_drop j R,recsC_app]
     rw [List.take_left' (by rw [dJ wt,lt])]
    have wti : ∀ p∈(R.take j).take i,ak.Wf p:=fun p hp=>wt p (List.mem_of_mem_take hp)
    have lti:((R.take j).take i).length=i:=by rw [List.length_take];omega
    have q2:bh ((R.take j).drop i)=(bh (R.take j)).drop (i*39):=by
     conv=>rhs;rw [←List.take_append_drop i (R.take j),recsC_app]
     rw [List.drop_left' (by rw [dJ wti,lti])]
    rw [q2,q1]
   rw [e1,←hcs,List.take_take,Nat.min_eq_left h4,List.drop_take,List.drop_drop,h2]
def inR (lo hi:List Nat) (r:ak):Bool:=decide (0≤cmpB r lo)&&(decide (hi = [])||decide (cmpB r hi<0))
theorem cut_filter {R:List ak} {p:ak→Bool} {i j:Nat} (hij:i≤j) (hj:j≤R.length) (h1 : ∀ k,(hk:k<R.length)→i≤k→k<j→p R[k]=true) (h2 : ∀ k,(hk:k<R.length)→(k<i∨j≤k)→p R[k]=false):(R.take j).drop i=R.filter p:=by
 have e:R=(R.take j).take i++((R.take j).drop i++R.drop j):=by rw [←List.append_assoc,List.take_append_drop,List.take_append_drop]
 conv=>rhs;rw [e,List.filter_append,List.filter_append]
 have a1:((R.take j).take i).filter p = []:=by
  rw [List.filter_eq_nil_iff]
  intro x hx
  obtain ⟨k,hk,rfl⟩:=List.mem_iff_getElem.1 hx
  rw [List.length_take,List.length_take] at hk
  rw [List.getElem_take,List.getElem_take,h2 k (by omega) (.inl (by omega))]
  decide
 have a3:(R.drop j).filter p = []:=by
  rw [List.filter_eq_nil_iff]
  intro x hx
  obtain ⟨k,hk,rfl⟩:=List.mem_iff_getElem.1 hx
  rw [List.length_drop] at hk
  rw [List.getElem_drop,h2 (j+k) (by omega) (.inr (by omega))]
  decide
 have a2:((R.take j).drop i).filter p=(R.take j).drop i:=by
  rw [List.filter_eq_self]
  intro x hx
  obtain ⟨k,hk,rfl⟩:=List.mem_iff_getElem.1 hx
  rw [List.length_drop,List.length_take] at hk
  rw [List.getElem_drop,List.getElem_take,h1 (i+k) (by omega) (by omega) (by omega)]
 rw [a1,a2,a3,List.nil_append,List.append_nil]
theorem max3 (a b:Nat):dP true (ai a) [ai b]=some (ai (max a b)):=by
 unfold ai dP
 simp only [if_true]
 unfold dP
 by_cases h:a<b
 ·rw [if_pos (by simpa using h)]
  congr 2
  omega
 ·rw [if_neg (by simpa using h)]
  congr 2
  omega
theorem chk_int (n:Nat) (g:ab):cy true (some (ai n,g)) (ai n)=true:=chkI .i64 _ _
set_option maxRecDepth 100000 in
theorem r20 {h:ab} (hG:4≤h.n0) {vb:Nat} {va:Value} {R:List ak} (gv:h.get vb=some [va]) (RS:RcS h va R) (nv:nilOk va) (ks:KS R) (hR:R.length≤1000000) {al ah:Option Addr} {nl cl nh ch:Nat} {lo hi:List Nat} (hlo:aq al nl h=some lo) (hhi:aq ah nh h=some hi) :
  ∃ v' h',CW 20 [ptr vb 0,.slice al nl cl,.slice ah nh ch] h=some (v',h')∧Old h h'∧RSl h' v' (R.filter (inR lo hi)):=by
 obtain ⟨k1,h1,e1,o1,a1,a2,a3⟩:=r56 (c:=cl) hG gv RS.rsl ks hR hlo
 have lv : ∀ g,Old h g→ld1 (ptr vb 0) g=some (va,g):=fun g og=>bg (Old.get og gv) rfl (hole_nil nv)
 have hll:=RS.rsl.len
 have cv : ∀ g,cy true (some (va,g)) va=true:=fun g=>by
  rcases nv with rfl|⟨a,n,c,rfl,_⟩<;>exact chk_sl2 ..
 have hlen:=(aJ hhi).1
 have gtr0:bin Tryd.prog .gtr 3 (ai nh) (.int .i64 0)=some (.bool (decide (0<nh))):=gtrC nh 0 0 rfl
 have hnh : ∀ n c:Nat,∀ a:Option Addr,cK (.slice a n c)=some (ai n):=fun _ _ _=>rfl
 by_cases h0:0<nh
 ·obtain ⟨k2,h2,e2,o2,b1,b2,b3⟩:=r56 (h:=h1) (c:=ch) (by rw [o1.n0];exact hG) (Old.get o1 gv) (RS.mono o1).rsl ks hR (Old.bytes o1 hhi)
  have O2:=o1.trans o2
  obtain ⟨v3,s3,r3,n3⟩:=(RS.mono O2).part nv (i:=k1) (j:=max k1 k2) (by omega) (by omega)
  obtain ⟨v4,h4,e4,o4,r4⟩:=r57 (h:=h2) (by rw [O2.n0];exact hG) r3 n3 (by rw [List.length_drop,List.length_take];omega)
  refine ⟨v4,h4,aF is20 hG rfl ((t20_eq _ _ _ _ _).trans ?_),O2.trans o4,?_⟩
  ·unfold t20
   simp -implicitDefEqProofs only [nil25,e1,bA,aE,Nat.zero_add,lv h1 o1,lv h (Kept.refl _ _),hll,cv,af,chk_int,Bool.and_true,hnh,gtr0,decide_eq_true h0,e2,max3,lv h2 O2,s3,e4,ad]
  ·have:(R.take (max k1 k2)).drop k1=R.filter (inR lo hi):=by
    refine cut_filter (by omega) (by omega) (fun k hk q1 q2 => ?_) (fun k hk q => ?_)
    ·have p1:=a3 k hk q1
     have p2:=b2 k hk (by omega)
     unfold inR
     rw [decide_eq_true p1,decide_eq_true p2,Bool.or_true]
     rfl
    ·unfold inR
     rcases q with q|q
     ·have:=a2 k hk q
      rw [decide_eq_false (by omega : ¬0≤cmpB R[k] lo),Bool.false_and]
     ·have p:=b3 k hk (by omega)
      have hne:hi ≠ []:=fun e=>by rw [e] at hlen;rw [List.length_nil] at hlen;omega
      rw [decide_eq_false hne,decide_eq_false (by omega : ¬cmpB R[k] hi<0),Bool.or_false,Bool.and_false]
   rw [←this]
   exact r4
 ·obtain ⟨v3,s3,r3,n3⟩:=(RS.mono o1).part nv (i:=k1) (j:=R.length) a1 (Nat.le_refl _)
  obtain ⟨v4,h4,e4,o4,r4⟩:=r57 (h:=h1) (by rw [o1.n0];exact hG) r3 n3 (by rw [List.length_drop,List.length_take];omega)
  refine ⟨v4,h4,aF is20 hG rfl ((t20_eq _ _ _ _ _).trans ?_),o1.trans o4,?_⟩
  ·unfold t20
   simp -implicitDefEqProofs only [nil25,e1,bA,aE,Nat.zero_add,lv h1 o1,lv h (Kept.refl _ _),hll,cv,af,chk_int,Bool.and_true,hnh,gtr0,decide_eq_false h0,s3,e4,ad]
  ·have:(R.take R.length).drop k1=R.filter (inR lo hi):=by
    have hnil:hi = []:=List.length_eq_zero_iff.1 (by omega)
    refine cut_filter a1 (Nat.le_refl _) (fun k hk q1 q2 => ?_) (fun k hk q => ?_)
    ·have p1:=a3 k hk q1
     unfold inR
     rw [decide_eq_true p1,decide_eq_true hnil]
     rfl
    ·unfold inR
     rcases q with q|q
     ·have:=a2 k hk q
      rw [decide_eq_false (by omega : ¬0≤cmpB R[k] lo),Bool.false_and]
     ·omega
   rw [←this]
   exact r4
end Go.Proofs.YtdnahgfgoajmcaaDoor

namespace Go.Proofs.YtdnahgfgoajmcaaDoor
open Go Go.Abs
attribute [local congr] aj
structure MsgD where
 kind:Nat
 frm:Int
 to:Int
 al:Option Addr
 nl:Nat
 cl:Nat
 ah:Option Addr
 nh:Nat
 ch:Nat
 cnt:Int
 root:List Nat
 ar:Option Addr
 nr:Nat
 cr:Nat
 want:Bool
abbrev MsgD.lo (m:MsgD):Value := .slice m.al m.nl m.cl
abbrev MsgD.hi (m:MsgD):Value := .slice m.ah m.nh m.ch
abbrev MsgD.recs (m:MsgD):Value := .slice m.ar m.nr m.cr
def mZ:List Value:=aZ z32++([.int .i64 0,.int .i64 0,.int .i64 0,.int .i64 0]++(aZ z32 ++ [.slice none 0 0,.int .i64 0,.slice none 0 0,.int .i64 0]))
def mHd (m:MsgD):List Value := [.int .u8 (m.kind:Int),.int .i64 m.frm,.int .i64 m.to,.int .u64 0,.int .i64 0,.int .i64 0,.slice none 0 0,m.lo,m.hi,.int .i64 m.cnt]
def mC (m:MsgD):List Value:=mHd m++(aZ m.root++([m.recs,.bool m.want]++mZ))
abbrev mV (m:MsgD):Value := .agg (mC m).toArray
def zM:List Value := [.int .u8 0,.int .i64 0,.int .i64 0,.int .u64 0,.int .i64 0,.int .i64 0,.slice none 0 0,.slice none 0 0,.slice none 0 0,.int .i64 0]++(aZ z32++([.slice none 0 0,.bool false]++mZ))
theorem mC_ok {m:MsgD} (hr:D32 m.root):(mC m).length=116∧Abs.bk (mC m)=true∧aC (mC m)=true:=by
 have d:=a7 hr
 have z1:mZ.length=72:=rfl
 have z2:Abs.bk mZ=true:=by decide
 have z3:aC mZ=true:=by decide
 refine ⟨?_,?_,?_⟩
 ·unfold mC
  rw [List.length_append,List.length_append,List.length_append,d.1,z1]
  rfl
 ·unfold mC Abs.bk at *
  rw [List.all_append,List.all_append,List.all_append,d.2.1,z2]
  rfl
 ·unfold mC aC at *
  rw [List.all_append,List.all_append,List.all_append,d.2.2,z3]
  rfl
theorem mC_hd (m:MsgD) {i:Nat} {v:Value} (h:(mHd m)[i]? = some v):(mC m)[i]? = some v:=by
 unfold mC
 have hi:i<(mHd m).length:=by
  rcases Nat.lt_or_ge i (mHd m).length with h1|h1
  ·exact h1
  ·rw [List.getElem?_eq_none h1] at h;cases h
 rw [List.getElem?_append_left hi]
 exact h
theorem mC_tl {m:MsgD} (hr:D32 m.root) {j:Nat} {v:Value} (h:([m.recs,.bool m.want]++mZ)[j]? = some v):(mC m)[42+j]? = some v:=by
 unfold mC
 have d:=(a7 hr).1
 have l10:(mHd m).length=10:=rfl
 rw [List.getElem?_append_right (by omega),List.getElem?_append_right (by omega),l10,d,show 42+j-10-32=j by omega]
 exact h
structure MLd (h:ab) (b:Nat) (m:MsgD):Prop where
 l0:ld1 (ptr b 0) h=some (.int .u8 (m.kind:Int),h)
 l1:ld1 (ptr b 1) h=some (.int .i64 m.frm,h)
 l2:ld1 (ptr b 2) h=some (.int .i64 m.to,h)
 l7:ld1 (ptr b 7) h=some (m.lo,h)
 l8:ld1 (ptr b 8) h=some (m.hi,h)
 l9:ld1 (ptr b 9) h=some (.int .i64 m.cnt,h)
 l10:dR 32 (ptr b 10) h=some (.agg (aZ m.root).toArray,h)
 l42:ld1 (ptr b 42) h=some (m.recs,h)
 l43:ld1 (ptr b 43) h=some (.bool m.want,h)
 all:dR 116 (ptr b 0) h=some (mV m,h)
theorem m_ld {h:ab} {b:Nat} {m:MsgD} (hr:D32 m.root) (g:h.get b=some (mC m)):MLd h b m:=by
 have ok:=mC_ok hr
 have d:=a7 hr
 refine ⟨bg g (mC_hd m rfl) rfl,bg g (mC_hd m rfl) rfl,bg g (mC_hd m rfl) rfl,bg g (mC_hd m rfl) rfl,bg g (mC_hd m rfl) rfl,bg g (mC_hd m rfl) rfl,?_,bg g (mC_tl hr (j:=0) rfl) rfl,bg g (mC_tl hr (j:=1) rfl) rfl,bY g ok.1 ok.2.1⟩
 have e:((mC m).drop 10).take 32=aZ m.root:=by
  unfold mC
  rw [List.drop_left' (by rfl),List.take_left' d.1]
 have:=ldN_at (o:=10) (n:=32) g (by rw [ok.1];decide) (by rw [e];exact d.2.1)
 rw [e] at this
 exact this
abbrev sumM (al:Option Addr) (nl cl:Nat) (ah:Option Addr) (nh ch n:Nat) (root:List Nat):MsgD:=⟨4,0,0,al,nl,cl,ah,nh,ch,(n:Int),root,none,0,0,false⟩
theorem bld_sum {al:Option Addr} {nl cl:Nat} {ah:Option Addr} {nh ch n:Nat} {root:List Nat} (hr:D32 root):fA zM [(0,1,.int .u8 4),(7,1,.slice al nl cl),(8,1,.slice ah nh ch),(9,1,ai n),(10,32,.agg (aZ root).toArray)]=some (mV (sumM al nl cl ah nh ch n root)):=by
 have e:cO zM [(0,1,.int .u8 4),(7,1,.slice al nl cl),(8,1,.slice ah nh ch),(9,1,ai n),(10,32,.agg (aZ root).toArray)]=cO (mHd (sumM al nl cl ah nh ch n root)++(aZ z32++([.slice none 0 0,.bool false]++mZ))) [(10,32,.agg (aZ root).toArray)]:=rfl
 unfold fA
 rw [e,fill_mid (A:=mHd (sumM al nl cl ah nh ch n root)) (B:=aZ z32) (o:=10) (n:=32) rfl rfl rfl (a7 hr).1]
 rfl
theorem is17:b9 Tryd.prog 17 Tryd.f17:=⟨by kernel_rfl,by kernel_rfl,by kernel_rfl,by kernel_rfl⟩
theorem is100:b9 Tryd.prog 100 Tryd.f100:=⟨by kernel_rfl,by kernel_rfl,by kernel_rfl,by kernel_rfl⟩
theorem is50:b9 Tryd.prog 50 Tryd.f50:=⟨by kernel_rfl,by kernel_rfl,by kernel_rfl,by kernel_rfl⟩
theorem agg42:aggT Tryd.prog 42=some true:=by kernel_rfl
theorem siz42:bQ Tryd.prog 42=some 116:=by kernel_rfl
theorem results17:Tryd.f17.results.toList = [.cell 6 42]:=by kernel_rfl
theorem bytes_keep {a:Option Addr} {n:Nat} {h h':ab} {l:List Nat} (e:aq a n h=some l) (hk : ∀ y,a=some y→h'.get y.block=h.get y.block):aq a n h'=some l:=by
 rw [←e]
 unfold aq
 congr 1
 cases a with
 |none=>rfl
 |some y=>
  obtain ⟨b,o,s⟩:=y
  have:=hk _ rfl
  unfold aT
  simp only
  rw [this]
set_option maxRecDepth 100000 in
theorem r17 {h:ab} (hG:4≤h.n0) (hz:h.get 3=some bw) {vb:Nat} {va:Value} {R:List ak} (gv:h.get vb=some [va]) (RS:RcS h va R) (nv:nilOk va) (ks:KS R) (vl:Vld R) (hR:R.length≤1000000) {al ah:Option Addr} {nl cl nh ch:Nat} {lo hi:List Nat}
  (hlo:aq al nl h=some lo) (hhi:aq ah nh h=some hi) (hnl:nl≤21000) (hnh:nh≤21000) :
  ∃ al' cl' ah' ch' h',CW 17 [ptr vb 0,.slice al nl cl,.slice ah nh ch] h=some (mV (sumM al' nl cl' ah' nh ch' (R.filter (inR lo hi)).length (treeV (R.filter (inR lo hi)))),h')∧Old h h'∧aq al' nl h'=some lo∧aq ah' nh h'=some hi ∧
    (∀ y,al'=some y→h.next≤y.block∧y.block<h'.next)∧(∀ y,ah'=some y→h.next≤y.block∧y.block<h'.next):=by
 obtain ⟨h1,z1,o1,g1,n1⟩:=fresh zM h
 obtain ⟨v2,h2,e2,o2,r2⟩:=r20 (h:=h1) (cl:=cl) (ch:=ch) (by rw [o1.n0];exact hG) (Old.get o1 gv) (RS.mono o1) nv ks hR (Old.bytes o1 hlo) (Old.bytes o1 hhi)
 have O2:=o1.trans o2
 obtain ⟨al',cl',h3,e3,s3,_,o3,p3,_⟩:=r69b (h:=h2) (c:=cl) (by rw [O2.n0];exact hG) (Old.bytes O2 hlo) hnl
 have O3:=O2.trans o3
 obtain ⟨ah',ch',h4,e4,s4,_,o4,p4,_⟩:=r69b (h:=h3) (c:=ch) (by rw [O3.n0];exact hG) (Old.bytes O3 hhi) hnh
 have O4:=O3.trans o4
 have vF : ∀ r∈R.filter (inR lo hi),eT r=true:=fun r hr=>(vl r (List.mem_filter.1 hr).1).2
 have hfl:=List.length_filter_le (inR lo hi) R
 have r4:=(r2.mono o3).mono o4
 obtain ⟨h5,e5,o5⟩:=r54 (h:=h4) (by rw [O4.n0];exact hG) (Old.get O4 hz) r4 vF (by omega)
 have O5:=O4.trans o5
 have hd:=treeV_ok (R.filter (inR lo hi))
 have hll:=r2.len
 generalize treeV (R.filter (inR lo hi))=root at *
 generalize (R.filter (inR lo hi)).length=n at *
 have bs:=bld_sum (al:=al') (nl:=nl) (cl:=cl') (ah:=ah') (nh:=nh) (ch:=ch') (n:=n) hd
 have ok:=mC_ok (m:=sumM al' nl cl' ah' nh ch' n root) hd
 obtain ⟨h6,e6,k6,g6,_,n6⟩:=bC (n:=116) (k':=mC (sumM al' nl cl' ah' nh ch' n root)) (Old.get (((o2.trans o3).trans o4).trans o5) g1) (by rw [O5.n0];exact h.ay) rfl ok.1 ok.2.2
 have O6:Old h h6:=Old.bJ O5 k6 (Nat.le_refl _)
 refine ⟨al',cl',ah',ch',h6,aF is17 hG rfl ((t17_eq _ _ _ _ _).trans ?_),O6,?_,?_,fun y hy => ?_,fun y hy => ?_⟩
 ·unfold t17
  have z1:newC zM h=some (ptr h.next 0,h1):=z1
  simp -implicitDefEqProofs only [nil25,ad,af]
  refine (congrArg (fun o=>aa o _) z1).trans ?_
  simp -implicitDefEqProofs only [e2,e3,e4,hll,e5,ad,af]
  refine (congrArg (fun o=>aa (pu o _) _) bs).trans ?_
  simp -implicitDefEqProofs only [e6,ad,af]
  refine res_cell results17 agg42 siz42 (by decide) _ ?_
  exact bY g6 ok.1 ok.2.1
 ·refine bytes_keep (Old.bytes (o4.trans o5) s3) fun y hy=>k6.get _ ?_ ?_
  ·have:=p3 y hy
   have:=o4.next;have:=o5.next
   omega
  ·have:=p3 y hy
   have:=O2.next
   have:=o2.next
   intro q
   have q:y.block=h.next:=q
   omega
 ·refine bytes_keep (Old.bytes o5 s4) fun y hy=>k6.get _ ?_ ?_
  ·have:=p4 y hy
   have:=o5.next
   omega
  ·have:=p4 y hy
   have:=O3.next
   have:=o2.next;have:=o3.next
   intro q
   have q:y.block=h.next:=q
   omega
 ·have:=p3 y hy
  have:=o3.next;have:=O2.next;have:=o4.next;have:=o5.next
  omega
 ·have:=p4 y hy
  have:=O3.next;have:=o5.next
  omega
end Go.Proofs.YtdnahgfgoajmcaaDoor

namespace Go.Proofs.YtdnahgfgoajmcaaDoor
open Go Go.Abs
attribute [local congr] aj
theorem is15:b9 Tryd.prog 15 Tryd.f15:=⟨by kernel_rfl,by kernel_rfl,by kernel_rfl,by kernel_rfl⟩
theorem r26L {h:ab} (hG:4≤h.n0) {v:Value} {L:List ak} (x:RcS h v L) (hl:L.length≤1000000) : ∃ v' h',CW 26 [v] h=some (v',h')∧Old h h'∧RLst h' h.next v' L:=by
 have o1:Old h (h.alloc []):=Kept.alloc _ _ _
 have r0:RLst (h.alloc []) h.next (.slice (some ⟨h.next,0,none⟩) 0 0) []:=⟨(fun _ h=>by cases h),h.next,none,rfl,by rw [ab.aN,if_pos rfl];rfl,Nat.le_refl _,.inl ⟨rfl,rfl⟩⟩
 obtain ⟨v',h',e,r,k,_⟩:=r0.pushL (x.mono o1) (by rw [o1.n0];exact h.ay) o1.next (by decide) hl
 rw [List.nil_append] at r
 have b0:dO 39 (.agg #[(.int .u8 0),(.int .u8 0),(.int .u8 0),(.int .u8 0),(.int .u8 0),(.int .u8 0),(.int .u8 0),(.int .u8 0),(.int .u8 0),(.int .u8 0),(.int .u8 0),(.int .u8 0),(.int .u8 0),(.int .u8 0),(.int .u8 0),(.int .u8 0),(.int .u8 0),(.int .u8 0),(.int .u8 0),(.int .u8 0),(.int .u8 0),(.int .u8 0),(.int .u8 0),(.int .u8 0),(.int .u8 0),(.int .u8 0),(.int .u8 0),(.int .u8 0),(.int .u8 0),(.int .u8 0),(.int .u8 0),(.int .u8 0),(.int .u8 0),(.int .i64 0),(.int .u64 0),(.int .u64 0),(.bool false),(.int .i64 0),(.int .i64 0)]) 0 [] h=some (.slice (some ⟨h.next,0,none⟩) 0 0,h.alloc []):=rfl
 refine ⟨v',h',aF is26 hG rfl ((t26_eq _ _ _).trans ?_),Old.bJ o1 k (Nat.le_refl _),r⟩
 unfold t26
 simp -implicitDefEqProofs only [b0,e,ad,af]
theorem r15 {h:ab} (hG:4≤h.n0) {v:Value} {L:List ak} (x:RcS h v L) (vr : ∀ r∈L,eT r=true) (hl:L.length≤500000) :
  ∃ vb h',CV 15 [v] h=some (.tuple #[ptr vb 0,.int .i64 0],h')∧IvH h' vb (merged [] L)∧Old h h'∧h.next≤vb:=by
 have e1:=CV_up (f:=33) rfl (by decide) (r33 hG)
 have o1:Old h (h.alloc [.slice none 0 0]):=Kept.alloc _ _ _
 have i1:IvH (h.alloc [.slice none 0 0]) h.next []:=⟨h.ay,⟨.slice none 0 0,by rw [ab.aN,if_pos rfl],⟨(fun _ h=>by cases h),none,0,rfl,fun _=>rfl,recsC_typed (P := []) (fun _ h=>by cases h),fun h=>absurd h (Nat.lt_irrefl 0)⟩,.inl rfl⟩,(fun _ h=>by cases h),.nil⟩
 generalize h.alloc [.slice none 0 0]=h1 at *
 obtain ⟨v2,h2,e2,o2,r2⟩:=r26L (h:=h1) (by rw [o1.n0];exact hG) (x.mono o1) (by omega)
 have e2:=CV_up (f:=26) rfl (by decide) e2
 obtain ⟨h3,e3,i3,k3⟩:=r25 (i1.bK o2) r2.rcs.rsl vr (by decide) hl
 refine ⟨h.next,h3,CV_body is15 hG rfl (by decide) ((t15_eq _ _ _).trans ?_),i3,Old.bJ (o1.trans o2) k3 (Nat.le_refl _),Nat.le_refl _⟩
 unfold t15
 simp -implicitDefEqProofs only [e1,nil25,e2,e3,ad,af]
end Go.Proofs.YtdnahgfgoajmcaaDoor

namespace Go.Proofs.YtdnahgfgoajmcaaDoor
open Go Go.Abs
attribute [local congr] aj
theorem merged_len (A B:List ak):(merged A B).length≤A.length+B.length:=by
 have h1:=newest_len (A++B)
 rw [List.length_append] at h1
 have h2:=List.length_filter_le (eI (ed (A++B))) (ed (A++B))
 show (sortR _).length≤_
 rw [(eV _).length_eq]
 omega
def Is (T P:List ak):Prop := ∀ x,x∈T↔Nf P x
theorem right_vld {Ls:List (List ak)} (h:rightB Ls=true):Ls.length≤40∧(∀ L∈Ls,L.length≤120 ∧ ∀ r∈L,eT r=true)∧Ls.flatten.length≤120:=by
 unfold rightB at h
 simp only [Bool.and_eq_true,decide_eq_true_eq,List.all_eq_true] at h
 exact ⟨h.1.1,fun L hL=>⟨(h.1.2 L hL).1,(h.1.2 L hL).2⟩,h.2⟩
end Go.Proofs.YtdnahgfgoajmcaaDoor

namespace Go.Proofs.YtdnahgfgoajmcaaDoor
open Go Go.Abs
attribute [local congr] aj
theorem nqE (n:Int):bin Tryd.prog .neq 26 (.int .i64 n) (.int .i64 n)=some (.bool false):=by rw [cn];simp
end Go.Proofs.YtdnahgfgoajmcaaDoor

namespace Go.Proofs.YtdnahgfgoajmcaaDoor
open Go Go.Abs
attribute [local congr] aj
theorem is12:b9 Tryd.prog 12 Tryd.f12:=⟨by kernel_rfl,by kernel_rfl,by kernel_rfl,by kernel_rfl⟩
theorem b50_10e (C:ae) (e:Env) (h:ab):b50_10 C 1 e h=k50_8 C e h:=rfl
theorem copyB {h:ab} {a:Option Addr} {n c:Nat} {l:List Nat} (hl:aq a n h=some l) (hn:n≤21000) : ∃ b s c' h',aM 1 1 (.slice (some ⟨h.next,0,none⟩) 0 0) (.slice a n c) (h.alloc [])=some (.slice (some ⟨b,0,s⟩) n c',h')∧aq (some ⟨b,0,s⟩) n h'=some l∧Old h h':=by
 have hl1:aq a n (h.alloc [])=some l:=sliceBytes_mono hl fun _ _ hc=>ab.get_alloc_some hc _
 obtain ⟨b,s,c',g',e1,e2,e3,e4,e5,e6,e7⟩:=append_fresh (g:=h.alloc []) (E:=h.next) (c:=c) h.ay hl1 hn
 exact ⟨b,s,c',g',e1,e2,(Kept.alloc h [] _).trans ⟨e5,e6,fun d hd _=>e7 d hd⟩⟩
theorem eqII (n:Int):bin Tryd.prog .eql 3 (.int .i64 n) (.int .i64 n)=some (.bool true):=by rw [eqI,decide_eq_true rfl]
theorem eqDD {d:List Nat} (w:D32 d):bin Tryd.prog .eql 35 (.agg (aZ d).toArray) (.agg (aZ d).toArray)=some (.bool true):=by rw [eqD35 w w,decide_eq_true rfl]
set_option maxRecDepth 100000 in
theorem r100q {h:ab} (hG:4≤h.n0) (hz:h.get 3=some bw) {vb:Nat} {va:Value} {R:List ak} (gv:h.get vb=some [va]) (RS:RcS h va R) (nv:nilOk va) (ks:KS R) (vl:Vld R) (hR:R.length≤1000000) {m:MsgD} {lo hi:List Nat}
  (hlo:aq m.al m.nl h=some lo) (hhi:aq m.ah m.nh h=some hi) (hnl:m.nl≤21000) (hnh:m.nh≤21000) (hc:m.cnt=((R.filter (inR lo hi)).length:Int)) (hr:m.root=treeV (R.filter (inR lo hi))) :
  ∃ h',CW 100 [ptr vb 0,mV m] h=some (.slice none 0 0,h')∧Old h h':=by
 have hd:D32 m.root:=by rw [hr];exact treeV_ok _
 have ok:=mC_ok hd
 have b1:box (mV m) h=some (ptr h.next 0,h.alloc (mC m)):=box_at h _ ok.2.2
 have o1:Old h (h.alloc (mC m)):=Kept.alloc _ _ _
 have g1:(h.alloc (mC m)).get h.next=some (mC m):=by rw [ab.aN,if_pos rfl]
 generalize h.alloc (mC m)=h1 at *
 have M:=fun g (og:Old h1 g)=>m_ld hd (Old.get og g1)
 obtain ⟨al',cl',ah',ch',h2,e2,o2,s2,t2,_,_⟩:=r17 (h:=h1) (cl:=m.cl) (ch:=m.ch) (by rw [o1.n0];exact hG) (Old.get o1 hz) (Old.get o1 gv) (RS.mono o1) nv ks vl hR (Old.bytes o1 hlo) (Old.bytes o1 hhi) hnl hnh
 have O2:=o1.trans o2
 rw [←hr] at e2
 obtain ⟨h3,z3,o3,g3,n3⟩:=fresh zM h2
 have ok2:=mC_ok (m:=sumM al' m.nl cl' ah' m.nh ch' (R.filter (inR lo hi)).length m.root) hd
 obtain ⟨h4,e4,k4,g4,_,n4⟩:=bC (n:=116) (k':=mC (sumM al' m.nl cl' ah' m.nh ch' (R.filter (inR lo hi)).length m.root)) g3 (by rw [(O2.trans o3).n0];exact Nat.le_trans h.ay O2.next) rfl ok2.1 ok2.2.2
 have o4:Old h2 h4:=Old.bJ o3 k4 (Nat.le_refl _)
 have O4:=O2.trans o4
 obtain ⟨v5,h5,e5,o5,r5⟩:=r20 (h:=h4) (cl:=m.cl) (ch:=m.ch) (by rw [O4.n0];exact hG) (Old.get O4 gv) (RS.mono O4) nv ks hR (Old.bytes O4 hlo) (Old.bytes O4 hhi)
 have S:=m_ld hd (m:=sumM al' m.nl cl' ah' m.nh ch' (R.filter (inR lo hi)).length m.root) (Old.get o5 g4)
 have M1:=M h1 (Kept.refl _ _)
 have M4:=M h4 (o2.trans o4)
 have M5:=M h5 ((o2.trans o4).trans o5)
 have q9:ld1 (ptr h2.next 9) h5=some (.int .i64 m.cnt,h5):=by rw [hc];exact S.l9
 refine ⟨h5,aF is100 hG rfl ((t100_eq _ _ _ _).trans ?_),O4.trans o5⟩
 unfold t100
 simp -implicitDefEqProofs only [b1,aE,Nat.zero_add,M1.l7,M1.l8,e2,ad,af]
 refine (congrArg (fun o=>aa o _) z3).trans ?_
 simp -implicitDefEqProofs only [e4,aE,Nat.zero_add,M4.l7,M4.l8,e5,q9,M5.l9,eqII,bt,aX,S.l10,M5.l10,eqDD hd,if_true,ad,af]
theorem eq31:bin Tryd.prog .eql 31 (.int .u8 4) (.int .u8 4)=some (.bool true):=by kernel_rfl
set_option maxRecDepth 100000 in
theorem r50q {h:ab} (hG:4≤h.n0) (hz:h.get 3=some bw) {vb:Nat} {va:Value} {R:List ak} (gv:h.get vb=some [va]) (RS:RcS h va R) (nv:nilOk va) (ks:KS R) (vl:Vld R) (hR:R.length≤1000000) {m:MsgD} {lo hi:List Nat}
  (hlo:aq m.al m.nl h=some lo) (hhi:aq m.ah m.nh h=some hi) (hnl:m.nl≤21000) (hnh:m.nh≤21000) (hk:m.kind=4) (hc:m.cnt=((R.filter (inR lo hi)).length:Int)) (hr:m.root=treeV (R.filter (inR lo hi))) :
  ∃ h',CV 50 [ptr vb 0,mV m] h=some (.tuple #[.slice none 0 0,.int .i64 0],h')∧Old h h':=by
 have hd:D32 m.root:=by rw [hr];exact treeV_ok _
 have ok:=mC_ok hd
 have b1:box (mV m) h=some (ptr h.next 0,h.alloc (mC m)):=box_at h _ ok.2.2
 have o1:Old h (h.alloc (mC m)):=Kept.alloc _ _ _
 have g1:(h.alloc (mC m)).get h.next=some (mC m):=by rw [ab.aN,if_pos rfl]
 generalize h.alloc (mC m)=h1 at *
 have M:=m_ld hd g1
 have l0:=M.l0
 rw [hk] at l0
 have l0:ld1 (ptr h.next 0) h1=some (.int .u8 4,h1):=l0
 have gc:bin Tryd.prog .geq 3 (.int .i64 m.cnt) (.int .i64 0)=some (.bool true):=by
  rw [ge0,hc,decide_eq_true (by omega)]
 obtain ⟨h2,e2,o2⟩:=r100q (h:=h1) (by rw [o1.n0];exact hG) (Old.get o1 hz) (Old.get o1 gv) (RS.mono o1) nv ks vl hR (Old.bytes o1 hlo) (Old.bytes o1 hhi) hnl hnh hc hr
 have e2:=CV_up (f:=100) rfl (by decide) e2
 have ln:cK (.slice none 0 0)=some (ai 0):=rfl
 have key : ∃ out:Out,t50 CV (ptr vb 0) (mV m) h=out∧out=some (.tuple #[.slice none 0 0,.int .i64 0],h2):=by
  refine ⟨_,rfl,?_⟩
  unfold t50
  simp -implicitDefEqProofs only [b1,nil25,aE,Nat.zero_add,l0,eq31,bt,aX,M.l9,gc,if_true,M.all,e2,ln,ad,af]
  refine bU (n:=65) (fin:=fun ex y g=>ex = .exit 1∧g=h2∧y 6 = .slice none 0 0) (Q:=fun o:Out=>o=some (.tuple #[.slice none 0 0,.int .i64 0],h2))
   (bW (t50l50_1111010_eq CV) (Inv:=fun k y g=>g=h2∧y 6 = .slice none 0 0∧y 47=ai 0∧y 48=ai 0) ?_ 0 (by have:rounds=18446744073709551616:=rfl;omega) ⟨rfl,rfl,rfl,rfl⟩) ?_
  ·rintro k y g ⟨rfl,y6,y47,y48⟩
   unfold t50l50_1111010
   simp -implicitDefEqProofs only [y47,y48,lss3,decide_eq_false (Nat.lt_irrefl 0),ad,af]
   exact Rnd.out 1 ⟨rfl,rfl,y6⟩
  ·rintro ex z g ⟨rfl,rfl,z6⟩
   simp -implicitDefEqProofs only [bF,b50_10e,t50k50_8_eq]
   unfold t50k50_8
   simp -implicitDefEqProofs only [z6,ad]
 obtain ⟨q,e,e'⟩:=key
 exact ⟨h2,CV_body is50 hG (by decide) (by decide) ((t50_eq _ _ _ _).trans (e.trans e')),o1.trans o2⟩
theorem lls_one {h:ab} {v:Value} {L:List ak} (x:RcS h v L) : ∃ w h',dO 1 (.slice none 0 0) 1 [(0,v)] h=some (w,h')∧Old h h'∧LLS h' w [L]:=by
 have x':=x
 obtain ⟨hd,a,d,rfl,hn,ht,h0⟩:=x
 have o1:Old h (h.alloc [.slice a L.length d]):=Kept.alloc _ _ _
 have g1:(h.alloc [.slice a L.length d]).get h.next=some [.slice a L.length d]:=by rw [ab.aN,if_pos rfl]
 refine ⟨.slice (some ⟨h.next,0,none⟩) 1 1,h.alloc [.slice a L.length d],rfl,o1,⟨_,_,rfl⟩,fun i hi => ?_⟩
 have hi':i<1:=hi
 obtain rfl:i=0:=by omega
 refine ⟨h.next,0,.slice a L.length d,rfl,by have:(h.alloc [.slice a L.length d]).next=h.next+1:=rfl;omega,fun g e=>bg (e.trans g1) rfl rfl,x'.mono o1⟩
set_option maxRecDepth 100000 in
theorem r12 {h:ab} (hG:4≤h.n0) (hz:h.get 3=some bw) {v:Value} {L:List ak} (hv:RcS h v L) {al ah:Option Addr} {nl cl nh ch:Nat} {lo hi:List Nat} (hlo:aq al nl h=some lo) (hhi:aq ah nh h=some hi) : ∃ h',CV 12 [v,.slice al nl cl,.slice ah nh ch] h=some (.bool true,h'):=by
 obtain ⟨w1,h1,e1,o1,S1⟩:=lls_one hv
 obtain ⟨h2,e2,o2⟩:=r24 (h:=h1) (by rw [o1.n0];exact hG) S1
 have e2:=CV_up (f:=24) rfl (by decide) e2
 have O2:=o1.trans o2
 have e14 : ∀ g,Old h g→CV 14 [] g=some (.bool true,g):=fun g og=>r14V (Old.get og hz)
 have ln : ∀ (a:Option Addr) (n c:Nat),cK (.slice a n c)=some (ai n):=fun _ _ _=>rfl
 have key : ∃ out:Out,t12 CV v (.slice al nl cl) (.slice ah nh ch) h=out ∧ ∃ h',out=some (.bool true,h'):=by
  refine ⟨_,rfl,?_⟩
  unfold t12
  cases hr:rightB [L] with
  |false=>
   rw [hr] at e2
   simp -implicitDefEqProofs only [e1,e2,bR,Bool.not_false,bt',a6,if_true,e14 h2 O2,ad,af]
   exact ⟨h2,rfl⟩
  |true=>
   rw [hr] at e2
   simp -implicitDefEqProofs only [e1,e2,bR,Bool.not_true,bf,aX,Bool.false_eq_true,if_false,ln,gtrC nl 100 100 rfl,gtrC nh 100 100 rfl,ad,af]
   by_cases c1:100<nl
   ·simp -implicitDefEqProofs only [decide_eq_true c1,bt',a6,if_true,e14 h2 O2,ad,af]
    exact ⟨h2,rfl⟩
   ·by_cases c2:100<nh
    ·simp -implicitDefEqProofs only [decide_eq_false c1,ln,gtrC nh 100 100 rfl,decide_eq_true c2,bf,aX,Bool.false_eq_true,if_false,e14 h2 O2,ad,af]
     exact ⟨h2,rfl⟩
    ·obtain ⟨hr1,hr2,hr3⟩:=right_vld hr
     have hL:=hr2 L List.mem_cons_self
     have hLl:L.length≤120:=hL.1
     obtain ⟨x,h3,e3,I3,o3,hx⟩:=r15 (h:=h2) (by rw [O2.n0];exact hG) (hv.mono O2) hL.2 (by omega)
     have O3:=O2.trans o3
     obtain ⟨y,h4,e4,I4,o4,hy⟩:=r15 (h:=h3) (by rw [O3.n0];exact hG) (hv.mono O3) hL.2 (by omega)
     have O4:=O3.trans o4
     have J4:=I3.bK o4
     have x0:aU (.tuple #[ptr x 0,.int .i64 0]) 0=some (ptr x 0):=rfl
     have x1:aU (.tuple #[ptr x 0,.int .i64 0]) 1=some (.int .i64 0):=rfl
     have y0:aU (.tuple #[ptr y 0,.int .i64 0]) 0=some (ptr y 0):=rfl
     have y1:aU (.tuple #[ptr y 0,.int .i64 0]) 1=some (.int .i64 0):=rfl
     have ml:=merged_len [] L
     rw [List.length_nil] at ml
     obtain ⟨b5,s5,c5,h5,e5,p5,o5⟩:=copyB (c:=cl) (Old.bytes O4 hlo) (by omega)
     have O5:=O4.trans o5
     obtain ⟨b6,s6,c6,h6,e6,p6,o6⟩:=copyB (c:=ch) (Old.bytes O5 hhi) (by omega)
     have O6:=O5.trans o6
     have o46:=o5.trans o6
     have J6:=J4.bK o46
     have I6:=I4.bK o46
     obtain ⟨vx,gx,rx,nx⟩:=J6.ex
     obtain ⟨vy,gy,ry,ny⟩:=I6.ex
     obtain ⟨al',cl',ah',ch',h7,e7,o7,p7,q7,_,_⟩:=r17 (h:=h6) (cl:=c5) (ch:=c6) (by rw [O6.n0];exact hG) (Old.get O6 hz) gx rx nx J6.ks J6.vld (by omega) (Old.bytes o6 p5) p6 (by omega) (by omega)
     have e7:=CV_up (f:=17) rfl (by decide) e7
     have O7:=O6.trans o7
     obtain ⟨h8,e8,o8⟩:=r50q (h:=h7) (by rw [O7.n0];exact hG) (Old.get O7 hz) (Old.get o7 gy) (ry.mono o7) ny I6.ks I6.vld (by omega) (m:=sumM al' nl cl' ah' nh ch' ((merged [] L).filter (inR lo hi)).length (treeV ((merged [] L).filter (inR lo hi)))) p7 q7 (show nl≤21000 by omega) (show nh≤21000 by omega) rfl rfl rfl
     have O8:=O7.trans o8
     have z0:aU (.tuple #[.slice none 0 0,.int .i64 0]) 0=some (.slice none 0 0):=rfl
     have z1:aU (.tuple #[.slice none 0 0,.int .i64 0]) 1=some (.int .i64 0):=rfl
     have eq26:bin Tryd.prog .eql 26 (.int .i64 0) (.int .i64 0)=some (.bool true):=by kernel_rfl
     have eq3:bin Tryd.prog .eql 3 (ai 0) (.int .i64 0)=some (.bool true):=eqII 0
     obtain ⟨v9,h9,e9,o9,r9⟩:=r23 (h:=h8) (by rw [O8.n0];exact hG) (Old.get (o7.trans o8) gx) (rx.mono (o7.trans o8)) nx (by omega)
     have e9:=CV_up (f:=23) rfl (by decide) e9
     have O9:=O8.trans o9
     obtain ⟨v10,h10,e10,o10,r10⟩:=r23 (h:=h9) (by rw [O9.n0];exact hG) (Old.get ((o7.trans o8).trans o9) gy) (ry.mono ((o7.trans o8).trans o9)) ny (by omega)
     have e10:=CV_up (f:=23) rfl (by decide) e10
     have O10:=O9.trans o10
     have e11:=CV_up (f:=19) rfl (by decide) (r19 (h:=h10) (by rw [O10.n0];exact hG) (r9.mono o10) r10 (by omega))
     rw [decide_eq_true rfl] at e11
     have b5':=bsl_bytes h4
     have b6':=bsl_bytes h5
     simp -implicitDefEqProofs only [decide_eq_false c1,ln,gtrC nh 100 100 rfl,decide_eq_false c2,bf,bt,aX,Bool.false_eq_true,if_false,if_true,e3,x0,x1,e4,y0,y1,nqE,b5',e5,b6',e6,e7,e8,z0,z1,eq26,eq3,e9,e10,e11,e14 h10 O10,ad,af]
     exact ⟨h10,rfl⟩
 obtain ⟨q,e,h',e'⟩:=key
 exact ⟨h',CV_body is12 hG (by decide) (by decide) ((t12_eq _ _ _ _ _).trans (e.trans e'))⟩
end Go.Proofs.YtdnahgfgoajmcaaDoor

