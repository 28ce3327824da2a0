/-
  A part of the proof, spaces and names shortened by a program (a claim may hold 1,500,000 bytes).
  Conditions: as each theorem states.
-/
import Derived.Test.YtdnahgfgoajmcaaDoorG18
namespace Go.Proofs.YtdnahgfgoajmcaaDoor
open Go Go.Abs
open Go.Lib (compareBytes)
attribute [local congr] aq
theorem is111:cd Tryd.prog 111 Tryd.f111:=⟨by kernel_rfl,by kernel_rfl,by kernel_rfl,by kernel_rfl⟩
theorem is112:cd Tryd.prog 112 Tryd.f112:=⟨by kernel_rfl,by kernel_rfl,by kernel_rfl,by kernel_rfl⟩
theorem is56:cd Tryd.prog 56 Tryd.f56:=⟨by kernel_rfl,by kernel_rfl,by kernel_rfl,by kernel_rfl⟩
theorem b111_3e (C:ae) (e:Env) (h:ab):b111_3 C 0 e h=k111_2 C e h:=rfl
theorem shr111 (i:Nat):bin Tryd.prog .shr 111 (.int .u64 (i:Int)) (.int .u64 1)=some (.int .u64 ((i/2:Nat):Int)):=dR Tryd.prog 111 (k := .u64) (k' := .u64) (b:=1) (by decide)
theorem add33 {i j:Nat} (h:i+j≤10000000):bin Tryd.prog .add 3 (ak i) (ak j)=some (ak (i+j)):=by
 unfold ak
 rw [bin_add,wrap_i64 (by omega) (by omega)]
 congr 2
theorem cvU {i:Nat} (h:i≤10000000) (g:ab):cvI .u64 (ak i) g=some (.int .u64 (i:Int),g):=by
 unfold ak
 rw [c7]
 congr 3
 show ((i:Int)%18446744073709551616)=_
 omega
theorem cvN {i:Nat} (h:i≤10000000) (g:ab):cvI .i64 (.int .u64 (i:Int)) g=some (ak i,g):=by
 unfold ak
 rw [c7,wrap_i64 (by omega) (by omega)]
set_option maxRecDepth 100000 in
theorem r111 {h:ab} (hG:4≤h.n0) {fv:Value} {n:Nat} (hn:n≤1000000) (p:Nat→Bool) (hp : ∀ i,i<n → ∀ g,Old h g → ∃ g',callA Tryd.prog CW fv [ak i] g=some (.bool (p i),g')∧Old g g') (mono : ∀ i j,i≤j→j<n→p i=true→p j=true) :
  ∃ k h',CW 111 [ak n,fv] h=some (ak k,h')∧Old h h'∧k≤n∧(∀ i,i<k→p i=false) ∧ ∀ i,k≤i→i<n→p i=true:=by
 have key : ∃ q:Out,t111 CW (ak n) fv h=q ∧ ∃ k h',q=some (ak k,h')∧Old h h'∧k≤n∧(∀ i,i<k→p i=false) ∧ ∀ i,k≤i→i<n→p i=true:=by
  refine ⟨_,rfl,?_⟩
  unfold t111
  simp -implicitDefEqProofs only [ad]
  refine bO (n:=26) (fin:=fun ex y g=>ex = .exit 0∧Old h g ∧ ∃ k,y 5=ak k∧k≤n∧(∀ i,i<k→p i=false) ∧ ∀ i,k≤i→i<n→p i=true)
   (Q:=fun q:Out => ∃ k h',q=some (ak k,h')∧Old h h'∧k≤n∧(∀ i,i<k→p i=false) ∧ ∀ i,k≤i→i<n→p i=true)
   (bP (t111l111_1100_eq CW) (Inv:=fun k y g => ∃ i j,i+k=j∧j≤n∧y 1=fv∧y 5=ak i∧y 6=ak j∧Old h g∧(∀ a,a<i→p a=false) ∧ ∀ a,j≤a→a<n→p a=true) ?_ n (by have:rounds=18446744073709551616:=rfl;omega) ⟨0,n,by omega,Nat.le_refl _,rfl,rfl,rfl,Kept.refl _ _,fun a h=>absurd h (Nat.not_lt_zero a),fun a h1 h2=>by omega⟩) ?_
  ·rintro k y g ⟨i,j,hij,hjn,y1,y5,y6,Og,lo,hi⟩
   unfold t111l111_1100
   simp -implicitDefEqProofs only [y5,y6,lss3,ad,af]
   by_cases h1:i<j
   ·have hm1:i≤(i+j)/2:=by omega
    have hm2:(i+j)/2<j:=by omega
    obtain ⟨g',e,o⟩:=hp ((i+j)/2) (by omega) g Og
    simp -implicitDefEqProofs only [decide_eq_true h1,add33 (show i+j≤10000000 by omega),cvU (show i+j≤10000000 by omega),shr111,cvN (show (i+j)/2≤10000000 by omega),y1,e,aX,ad,af]
    cases hpm:p ((i+j)/2) with
    |true=>
     simp -implicitDefEqProofs only [Bool.not_true]
     exact dU.next ((i+j)/2-i) (by omega) ⟨i,(i+j)/2,by omega,by omega,y1,y5,rfl,Og.trans o,lo,fun a h2 h3=>mono _ _ h2 h3 hpm⟩
    |false=>
     have a5:bin Tryd.prog .add 3 (ak ((i+j)/2)) (.int .i64 1)=some (ak ((i+j)/2+1)):=fc (by omega)
     simp -implicitDefEqProofs only [Bool.not_false,a5,ad,af]
     refine dU.next (j-((i+j)/2+1)) (by omega) ⟨(i+j)/2+1,j,by omega,hjn,y1,rfl,y6,Og.trans o,fun a ha => ?_,hi⟩
     cases hpa:p a with
     |false=>rfl
     |true=>
      have:=mono a ((i+j)/2) (by omega) (by omega) hpa
      rw [hpm] at this
      cases this
   ·simp -implicitDefEqProofs only [decide_eq_false h1]
    refine dU.out 0 ⟨rfl,Og,i,y5,by omega,lo,fun a h2 h3=>hi a (by omega) h3⟩
  ·rintro ex z g ⟨rfl,Og,k,z5,q1,q2,q3⟩
   simp -implicitDefEqProofs only [bB,b111_3e,t111k111_2_eq]
   unfold t111k111_2
   rw [z5]
   exact ⟨k,g,rfl,Og,q1,q2,q3⟩
 obtain ⟨q,e,k,h',e',oo⟩:=key
 exact ⟨k,h',aC is111 hG rfl ((t111_eq _ _ _ _).trans (e.trans e')),oo⟩
def fM (r:ao) (l:List Nat):Int:=compareBytes (keyU r) (l.map UInt8.ofNat)
theorem ge0 (n:Int):bin Tryd.prog .geq 3 (.int .i64 n) (.int .i64 0)=some (.bool (decide (0≤n))):=by rw [bC]
theorem chk_sl2 (g:ab) (a:Option Addr) (n c:Nat):bN true (some (.slice a n c,g)) (.slice a n c)=true:=by
 show (!true||veq (.slice a n c) (.slice a n c))=true
 simp [veq]
theorem r112 {h:ab} (hG:4≤h.n0) {c2 c3 vb:Nat} {va:Value} {R:List ao} {a:Option Addr} {n c:Nat} {l:List Nat} (g2:h.get c2=some [ptr vb 0]) (gv:h.get vb=some [va]) (RS:RSl h va R) (g3:h.get c3=some [.slice a n c]) (hk:au a n h=some l) {i:Nat} (hi:i<R.length) :
  ∃ h',CW 112 [ak i,ptr c2 0,ptr c3 0] h=some (.bool (decide (0≤fM R[i] l)),h')∧Old h h':=by
 obtain ⟨b,o,ix,wr,ld⟩:=RS.rd hi
 obtain ⟨p,d,h1,e1,s1,o1⟩:=r67 hG wr
 have e2:=r66 (h:=h1) (c:=d) (d:=c) (by rw [o1.n0];exact hG) s1 (Old.bytes o1 hk)
 have l2 : ∀ g,Old h g→ld1 (ptr c2 0) g=some (ptr vb 0,g):=fun g og=>aQ (Old.get og g2) rfl rfl
 have lv : ∀ g,Old h g→ld1 (ptr vb 0) g=some (va,g):=fun g og=>aQ (Old.get og gv) rfl (by obtain ⟨⟨a,c,rfl⟩,_⟩:=RS;rfl)
 have l3 : ∀ g,Old h g→ld1 (ptr c3 0) g=some (.slice a n c,g):=fun g og=>aQ (Old.get og g3) rfl rfl
 refine ⟨h1,aC is112 hG rfl ((t112_eq _ _ _ _ _).trans ?_),o1⟩
 unfold t112
 simp -implicitDefEqProofs only [l2 h (Kept.refl _ _),bQ,aB,Nat.zero_add,lv h (Kept.refl _ _),ix,ld h (Kept.refl _ _),e1,l3 h1 o1,e2,ge0,l3 h (Kept.refl _ _),chk_sl2,Bool.and_true,ad,af]
 rfl
theorem call112 (x y z:Value) (h:ab):callA Tryd.prog CW (.func (.func 112) #[] #[y,z]) [x] h=CW 112 [x,y,z] h:=by
 have hf:=Nat.le_of_ble_eq_true fs_124
 unfold callA
 simp only
 generalize Tryd.prog.funcs.size=n at *
 rw [if_pos (show (112:Nat)<n by omega)]
 rfl
theorem box_ptr (b o:Nat) (h:ab):box (ptr b o) h=some (ptr h.next 0,h.alloc [ptr b o]):=rfl
theorem box_sl (a:Option Addr) (n c:Nat) (h:ab):box (.slice a n c) h=some (ptr h.next 0,h.alloc [.slice a n c]):=rfl
theorem ks_lt {R:List ao} (ks:KS R) {i j:Nat} (hij:i<j) (hj:j<R.length):ek R[i] R[j]<0:=by
 have h:=ks
 unfold KS at h
 rw [List.pairwise_iff_getElem] at h
 exact h i j (by omega) hj hij
theorem cmpB_mono {a b:ao} {l:List Nat} (h:ek a b<0) (h1:0≤fM a l):0≤fM b l:=by
 unfold fM ek at *
 have h2:=cb_neg (keyU a) (l.map UInt8.ofNat)
 have h3:=cb_neg (keyU b) (l.map UInt8.ofNat)
 have h4:=cb_neg (keyU a) (keyU b)
 have:=cb_ntrans (l.map UInt8.ofNat)
 by_cases h5:compareBytes (keyU b) (l.map UInt8.ofNat)<0
 ·have:=cb_trans _ _ _ h h5
  omega
 ·omega
theorem r56 {h:ab} (hG:4≤h.n0) {vb:Nat} {va:Value} {R:List ao} (gv:h.get vb=some [va]) (RS:RSl h va R) (ks:KS R) (hR:R.length≤1000000) {a:Option Addr} {n c:Nat} {l:List Nat} (hk:au a n h=some l) :
  ∃ k h',CW 56 [ptr vb 0,.slice a n c] h=some (ak k,h')∧Old h h'∧k≤R.length∧(∀ i,(hi:i<R.length)→i<k→fM R[i] l<0) ∧ ∀ i,(hi:i<R.length)→k≤i→0≤fM R[i] l:=by
 have o1:Old h (h.alloc [ptr vb 0]):=Kept.alloc _ _ _
 have b1:=box_ptr vb 0 h
 have g1:(h.alloc [ptr vb 0]).get h.next=some [ptr vb 0]:=by rw [ab.aK,if_pos rfl]
 have n1:(h.alloc [ptr vb 0]).next=h.next+1:=rfl
 generalize h.alloc [ptr vb 0]=h1 at *
 have o2:Old h1 (h1.alloc [.slice a n c]):=Kept.alloc _ _ _
 have b2:=box_sl a n c h1
 have g2:(h1.alloc [.slice a n c]).get h1.next=some [.slice a n c]:=by rw [ab.aK,if_pos rfl]
 generalize h1.alloc [.slice a n c]=h2 at *
 have O2:=o1.trans o2
 have g1':=Old.get o2 g1
 have gv':=Old.get O2 gv
 have hll:=RS.len
 have lv:ld1 (ptr vb 0) h2=some (va,h2):=aQ gv' rfl (by obtain ⟨⟨a,c,rfl⟩,_⟩:=RS;rfl)
 have l1:ld1 (ptr h.next 0) h2=some (ptr vb 0,h2):=aQ g1' rfl rfl
 have hG2:4≤h2.n0:=by rw [O2.n0];exact hG
 obtain ⟨k,h3,e3,o3,hk1,hk2,hk3⟩:=r111 (h:=h2) hG2 (fv := .func (.func 112) #[] #[ptr h.next 0,ptr h1.next 0]) (n:=R.length) hR (fun i=>decide (0≤fM (R.getD i ao.z) l))
  (fun i hi g og=>by
   obtain ⟨g',e,o⟩:=r112 (h:=g) (by rw [og.n0];exact hG2) (Old.get og g1') (Old.get og gv') ((RS.mono O2).mono og) (Old.get og g2) (Old.bytes (O2.trans og) hk) hi
   refine ⟨g',?_,o⟩
   rw [call112,e,List.getD_eq_getElem?_getD,List.getElem?_eq_getElem hi]
   rfl)
  (fun i j hij hj hp=>by
   rcases Nat.eq_or_lt_of_le hij with rfl|hlt
   ·exact hp
   ·have hi:i<R.length:=by omega
    simp only [List.getD_eq_getElem?_getD,List.getElem?_eq_getElem hi,List.getElem?_eq_getElem hj,Option.getD_some,decide_eq_true_eq] at hp ⊢
    exact cmpB_mono (ks_lt ks hlt hj) hp)
 refine ⟨k,h3,aC is56 hG rfl ((t56_eq _ _ _ _).trans ?_),O2.trans o3,hk1,fun i hi hik => ?_,fun i hi hik => ?_⟩
 ·unfold t56
  simp -implicitDefEqProofs only [b1,b2,l1,bQ,aB,Nat.zero_add,lv,hll,e3,ad,af]
 ·have:=hk2 i hik
  simp only [List.getD_eq_getElem?_getD,List.getElem?_eq_getElem hi,Option.getD_some,decide_eq_false_iff_not] at this
  omega
 ·have:=hk3 i hik hi
  simp only [List.getD_eq_getElem?_getD,List.getElem?_eq_getElem hi,Option.getD_some,decide_eq_true_eq] at this
  exact this
end Go.Proofs.YtdnahgfgoajmcaaDoor

namespace Go.Proofs.YtdnahgfgoajmcaaDoor
open Go Go.Abs
open Go.Lib (compareBytes)
attribute [local congr] aq
theorem is20:cd Tryd.prog 20 Tryd.f20:=⟨by kernel_rfl,by kernel_rfl,by kernel_rfl,by kernel_rfl⟩
theorem RcS.part {h:ab} {v:Value} {R:List ao} (x:RcS h v R) (n:nilOk v) {i j:Nat} (hij:i≤j) (hj:j≤R.length) : ∃ v',slR 39 v (some (ak i)) (some (ak j)) none=some v'∧RcS h v' ((R.take j).drop i)∧nilOk v':=by
 obtain ⟨hd,a,d,rfl,hn,ht,h0⟩:=x
 have hd' : ∀ p∈(R.take j).drop i,ao.Wf p:=fun p hp=>hd p (List.mem_of_mem_take (List.mem_of_mem_drop hp))
 rcases n with h1|⟨a',n',c',h1,hc,hs⟩
 ·cases a with
  |some a=>cases h1
  |none=>
   injection h1 with _ e1 e2
   have hR:R = []:=List.length_eq_zero_iff.1 e1
   subst hR
   subst e2
   obtain rfl:j=0:=by rw [List.length_nil] at hj;omega
   obtain rfl:i=0:=by omega
   exact ⟨.slice none 0 0,rfl,⟨hd',none,0,rfl,fun _=>rfl,ey hd',fun h=>absurd h (Nat.lt_irrefl 0)⟩,.inl rfl⟩
 ·injection h1 with e1 e2 e3
  subst e1 e2 e3
  obtain ⟨b,o,s⟩:=a'
  have hl:((R.take j).drop i).length=j-i:=by rw [List.length_drop,List.length_take];omega
  have hb:cm R.length d (some (ak i)) (some (ak j)) none=some (i,j,d):=by
   have a1:bE d d none=some d:=rfl
   have a2:bE R.length d (some (ak j))=some j:=by
    unfold bE ak
    simp only
    rw [if_pos (by omega)]
    rfl
   have a3:bE 0 j (some (ak i))=some i:=by
    unfold bE ak
    simp only
    rw [if_pos (by omega)]
    rfl
   unfold cm
   simp only [a1,a2,a3]
  have hc:R.length≤d:=hc
  have hsl : ∃ o',slR 39 (.slice (some ⟨b,o,s⟩) R.length d) (some (ak i)) (some (ak j)) none=some (.slice (some ⟨b,o',s⟩) (j-i) (d-i))∧(i<d→o'=o+i*39):=by
   unfold slR dP
   cases s with
   |none=>
    simp only [hb]
    by_cases hdi:d=i
    ·exact ⟨o,by rw [if_pos hdi],fun h=>by omega⟩
    ·exact ⟨o+i*39,by rw [if_neg hdi],fun _=>rfl⟩
   |some t=>
    have:t=39:=hs t rfl
    subst this
    simp only [hb]
    exact ⟨o+i*39,by rw [if_pos ⟨True.intro,by decide⟩],fun _=>rfl⟩
  obtain ⟨oo,hsl,hoo⟩:=hsl
  refine ⟨.slice (some ⟨b,oo,s⟩) (j-i) (d-i),hsl,⟨hd',some ⟨b,oo,s⟩,d-i,by rw [hl],(fun h=>by cases h),ey hd',fun hp => ?_⟩,.inr ⟨_,_,_,rfl,(show j-i≤d-i by omega),hs⟩⟩
  ·rw [hl] at hp
   obtain ⟨b',o',s',k,e,hk,hlen,hcs⟩:=h0 (by omega)
   cases e
   obtain rfl:=hoo (by omega)
   rw [show recK.length=39 from rfl] at hlen hcs
   have h2:(j-i)*39=j*39-i*39:=Nat.sub_mul ..
   have h3:i*39≤j*39:=Nat.mul_le_mul_right _ hij
   have h4:j*39≤R.length*39:=Nat.mul_le_mul_right _ hj
   refine ⟨b,o+i*39,s,k,rfl,hk,by rw [hl,show recK.length=39 from rfl];omega,?_⟩
   rw [hl,show recK.length=39 from rfl]
   have e1:ba ((R.take j).drop i)=((ba R).take (j*39)).drop (i*39):=by
    have lt:(R.take j).length=j:=by rw [List.length_take];omega
    have wt : ∀ p∈R.take j,ao.Wf p:=fun p hp=>hd p (List.mem_of_mem_take hp)
    have q1:ba (R.take j)=(ba R).take (j*39):=by
     conv=>rhs;rw [←List.take_append_drop j R,recsC_app]
     rw [List.take_left' (by rw [cG wt,lt])]
    have wti : ∀ p∈(R.take j).take i,ao.Wf p:=fun p hp=>wt p (List.mem_of_mem_take hp)
    have lti:((R.take j).take i).length=i:=by rw [List.length_take];omega
    have q2:ba ((R.take j).drop i)=(ba (R.take j)).drop (i*39):=by
     conv=>rhs;rw [←List.take_append_drop i (R.take j),recsC_app]
     rw [List.drop_left' (by rw [cG wti,lti])]
    rw [q2,q1]
   rw [e1,←hcs,List.take_take,Nat.min_eq_left h4,List.drop_take,List.drop_drop,h2]
def fR (lo hi:List Nat) (r:ao):Bool:=decide (0≤fM r lo)&&(decide (hi = [])||decide (fM r hi<0))
theorem cut_filter {R:List ao} {p:ao→Bool} {i j:Nat} (hij:i≤j) (hj:j≤R.length) (h1 : ∀ k,(hk:k<R.length)→i≤k→k<j→p R[k]=true) (h2 : ∀ k,(hk:k<R.length)→(k<i∨j≤k)→p R[k]=false):(R.take j).drop i=R.filter p:=by
 have e:R=(R.take j).take i++((R.take j).drop i++R.drop j):=by rw [←List.append_assoc,List.take_append_drop,List.take_append_drop]
 conv=>rhs;rw [e,List.filter_append,List.filter_append]
 have a1:((R.take j).take i).filter p = []:=by
  rw [List.filter_eq_nil_iff]
  intro x hx
  obtain ⟨k,hk,rfl⟩:=List.mem_iff_getElem.1 hx
  rw [List.length_take,List.length_take] at hk
  rw [List.getElem_take,List.getElem_take,h2 k (by omega) (.inl (by omega))]
  decide
 have a3:(R.drop j).filter p = []:=by
  rw [List.filter_eq_nil_iff]
  intro x hx
  obtain ⟨k,hk,rfl⟩:=List.mem_iff_getElem.1 hx
  rw [List.length_drop] at hk
  rw [List.getElem_drop,h2 (j+k) (by omega) (.inr (by omega))]
  decide
 have a2:((R.take j).drop i).filter p=(R.take j).drop i:=by
  rw [List.filter_eq_self]
  intro x hx
  obtain ⟨k,hk,rfl⟩:=List.mem_iff_getElem.1 hx
  rw [List.length_drop,List.length_take] at hk
  rw [List.getElem_drop,List.getElem_take,h1 (i+k) (by omega) (by omega) (by omega)]
 rw [a1,a2,a3,List.nil_append,List.append_nil]
theorem max3 (a b:Nat):eY true (ak a) [ak b]=some (ak (max a b)):=by
 unfold ak eY
 simp only [if_true]
 unfold eY
 by_cases h:a<b
 ·rw [if_pos (by simpa using h)]
  congr 2
  omega
 ·rw [if_neg (by simpa using h)]
  congr 2
  omega
theorem chk_int (n:Nat) (g:ab):bN true (some (ak n,g)) (ak n)=true:=chkI .i64 _ _
set_option maxRecDepth 100000 in
theorem r20 {h:ab} (hG:4≤h.n0) {vb:Nat} {va:Value} {R:List ao} (gv:h.get vb=some [va]) (RS:RcS h va R) (nv:nilOk va) (ks:KS R) (hR:R.length≤1000000) {al ah:Option Addr} {nl cl nh ch:Nat} {lo hi:List Nat} (hlo:au al nl h=some lo) (hhi:au ah nh h=some hi) :
  ∃ v' h',CW 20 [ptr vb 0,.slice al nl cl,.slice ah nh ch] h=some (v',h')∧Old h h'∧RSl h' v' (R.filter (fR lo hi)):=by
 obtain ⟨k1,h1,e1,o1,a1,a2,a3⟩:=r56 (c:=cl) hG gv RS.rsl ks hR hlo
 have lv : ∀ g,Old h g→ld1 (ptr vb 0) g=some (va,g):=fun g og=>aQ (Old.get og gv) rfl (hole_nil nv)
 have hll:=RS.rsl.len
 have cv : ∀ g,bN true (some (va,g)) va=true:=fun g=>by
  rcases nv with rfl|⟨a,n,c,rfl,_⟩<;>exact chk_sl2 ..
 have hlen:=(aE hhi).1
 have gtr0:bin Tryd.prog .gtr 3 (ak nh) (.int .i64 0)=some (.bool (decide (0<nh))):=gtrC nh 0 0 rfl
 have hnh : ∀ n c:Nat,∀ a:Option Addr,cN (.slice a n c)=some (ak n):=fun _ _ _=>rfl
 by_cases h0:0<nh
 ·obtain ⟨k2,h2,e2,o2,b1,b2,b3⟩:=r56 (h:=h1) (c:=ch) (by rw [o1.n0];exact hG) (Old.get o1 gv) (RS.mono o1).rsl ks hR (Old.bytes o1 hhi)
  have O2:=o1.trans o2
  obtain ⟨v3,s3,r3,n3⟩:=(RS.mono O2).part nv (i:=k1) (j:=max k1 k2) (by omega) (by omega)
  obtain ⟨v4,h4,e4,o4,r4⟩:=r57 (h:=h2) (by rw [O2.n0];exact hG) r3 n3 (by rw [List.length_drop,List.length_take];omega)
  refine ⟨v4,h4,aC is20 hG rfl ((t20_eq _ _ _ _ _).trans ?_),O2.trans o4,?_⟩
  ·unfold t20
   simp -implicitDefEqProofs only [nil25,e1,bQ,aB,Nat.zero_add,lv h1 o1,lv h (Kept.refl _ _),hll,cv,af,chk_int,Bool.and_true,hnh,gtr0,decide_eq_true h0,e2,max3,lv h2 O2,s3,e4,ad]
  ·have:(R.take (max k1 k2)).drop k1=R.filter (fR lo hi):=by
    refine cut_filter (by omega) (by omega) (fun k hk q1 q2 => ?_) (fun k hk q => ?_)
    ·have p1:=a3 k hk q1
     have p2:=b2 k hk (by omega)
     unfold fR
     rw [decide_eq_true p1,decide_eq_true p2,Bool.or_true]
     rfl
    ·unfold fR
     rcases q with q|q
     ·have:=a2 k hk q
      rw [decide_eq_false (by omega : ¬0≤fM R[k] lo),Bool.false_and]
     ·have p:=b3 k hk (by omega)
      have hne:hi ≠ []:=fun e=>by rw [e] at hlen;rw [List.length_nil] at hlen;omega
      rw [decide_eq_false hne,decide_eq_false (by omega : ¬fM R[k] hi<0),Bool.or_false,Bool.and_false]
   rw [←this]
   exact r4
 ·obtain ⟨v3,s3,r3,n3⟩:=(RS.mono o1).part nv (i:=k1) (j:=R.length) a1 (Nat.le_refl _)
  obtain ⟨v4,h4,e4,o4,r4⟩:=r57 (h:=h1) (by rw [o1.n0];exact hG) r3 n3 (by rw [List.length_drop,List.length_take];omega)
  refine ⟨v4,h4,aC is20 hG rfl ((t20_eq _ _ _ _ _).trans ?_),o1.trans o4,?_⟩
  ·unfold t20
   simp -implicitDefEqProofs only [nil25,e1,bQ,aB,Nat.zero_add,lv h1 o1,lv h (Kept.refl _ _),hll,cv,af,chk_int,Bool.and_true,hnh,gtr0,decide_eq_false h0,s3,e4,ad]
  ·have:(R.take R.length).drop k1=R.filter (fR lo hi):=by
    have hnil:hi = []:=List.length_eq_zero_iff.1 (by omega)
    refine cut_filter a1 (Nat.le_refl _) (fun k hk q1 q2 => ?_) (fun k hk q => ?_)
    ·have p1:=a3 k hk q1
     unfold fR
     rw [decide_eq_true p1,decide_eq_true hnil]
     rfl
    ·unfold fR
     rcases q with q|q
     ·have:=a2 k hk q
      rw [decide_eq_false (by omega : ¬0≤fM R[k] lo),Bool.false_and]
     ·omega
   rw [←this]
   exact r4
end Go.Proofs.YtdnahgfgoajmcaaDoor

namespace Go.Proofs.YtdnahgfgoajmcaaDoor
open Go Go.Abs
attribute [local congr] aq
structure MsgD where
 kind:Nat
 frm:Int
 to:Int
 al:Option Addr
 nl:Nat
 cl:Nat
 ah:Option Addr
 nh:Nat
 ch:Nat
 cnt:Int
 root:List Nat
 ar:Option Addr
 nr:Nat
 cr:Nat
 want:Bool
abbrev MsgD.lo (m:MsgD):Value := .slice m.al m.nl m.cl
abbrev MsgD.hi (m:MsgD):Value := .slice m.ah m.nh m.ch
abbrev MsgD.recs (m:MsgD):Value := .slice m.ar m.nr m.cr
def mZ:List Value:=aV z32++([.int .i64 0,.int .i64 0,.int .i64 0,.int .i64 0]++(aV z32 ++ [.slice none 0 0,.int .i64 0,.slice none 0 0,.int .i64 0]))
def mHd (m:MsgD):List Value := [.int .u8 (m.kind:Int),.int .i64 m.frm,.int .i64 m.to,.int .u64 0,.int .i64 0,.int .i64 0,.slice none 0 0,m.lo,m.hi,.int .i64 m.cnt]
def mC (m:MsgD):List Value:=mHd m++(aV m.root++([m.recs,.bool m.want]++mZ))
abbrev mV (m:MsgD):Value := .agg (mC m).toArray
def zM:List Value := [.int .u8 0,.int .i64 0,.int .i64 0,.int .u64 0,.int .i64 0,.int .i64 0,.slice none 0 0,.slice none 0 0,.slice none 0 0,.int .i64 0]++(aV z32++([.slice none 0 0,.bool false]++mZ))
theorem mC_ok {m:MsgD} (hr:gz m.root):(mC m).length=116∧Abs.bJ (mC m)=true∧aJ (mC m)=true:=by
 have d:=aW hr
 have z1:mZ.length=72:=rfl
 have z2:Abs.bJ mZ=true:=by decide
 have z3:aJ mZ=true:=by decide
 refine ⟨?_,?_,?_⟩
 ·unfold mC
  rw [List.length_append,List.length_append,List.length_append,d.1,z1]
  rfl
 ·unfold mC Abs.bJ at *
  rw [List.all_append,List.all_append,List.all_append,d.2.1,z2]
  rfl
 ·unfold mC aJ at *
  rw [List.all_append,List.all_append,List.all_append,d.2.2,z3]
  rfl
theorem mC_hd (m:MsgD) {i:Nat} {v:Value} (h:(mHd m)[i]? = some v):(mC m)[i]? = some v:=by
 unfold mC
 have hi:i<(mHd m).length:=by
  rcases Nat.lt_or_ge i (mHd m).length with h1|h1
  ·exact h1
  ·rw [List.getElem?_eq_none h1] at h;cases h
 rw [List.getElem?_append_left hi]
 exact h
theorem mC_tl {m:MsgD} (hr:gz m.root) {j:Nat} {v:Value} (h:([m.recs,.bool m.want]++mZ)[j]? = some v):(mC m)[42+j]? = some v:=by
 unfold mC
 have d:=(aW hr).1
 have l10:(mHd m).length=10:=rfl
 rw [List.getElem?_append_right (by omega),List.getElem?_append_right (by omega),l10,d,show 42+j-10-32=j by omega]
 exact h
structure MLd (h:ab) (b:Nat) (m:MsgD):Prop where
 l0:ld1 (ptr b 0) h=some (.int .u8 (m.kind:Int),h)
 l1:ld1 (ptr b 1) h=some (.int .i64 m.frm,h)
 l2:ld1 (ptr b 2) h=some (.int .i64 m.to,h)
 l7:ld1 (ptr b 7) h=some (m.lo,h)
 l8:ld1 (ptr b 8) h=some (m.hi,h)
 l9:ld1 (ptr b 9) h=some (.int .i64 m.cnt,h)
 l10:cT 32 (ptr b 10) h=some (.agg (aV m.root).toArray,h)
 l42:ld1 (ptr b 42) h=some (m.recs,h)
 l43:ld1 (ptr b 43) h=some (.bool m.want,h)
 all:cT 116 (ptr b 0) h=some (mV m,h)
theorem m_ld {h:ab} {b:Nat} {m:MsgD} (hr:gz m.root) (g:h.get b=some (mC m)):MLd h b m:=by
 have ok:=mC_ok hr
 have d:=aW hr
 refine ⟨aQ g (mC_hd m rfl) rfl,aQ g (mC_hd m rfl) rfl,aQ g (mC_hd m rfl) rfl,aQ g (mC_hd m rfl) rfl,aQ g (mC_hd m rfl) rfl,aQ g (mC_hd m rfl) rfl,?_,aQ g (mC_tl hr (j:=0) rfl) rfl,aQ g (mC_tl hr (j:=1) rfl) rfl,bh g ok.1 ok.2.1⟩
 have e:((mC m).drop 10).take 32=aV m.root:=by
  unfold mC
  rw [List.drop_left' (by rfl),List.take_left' d.1]
 have:=ldN_at (o:=10) (n:=32) g (by rw [ok.1];decide) (by rw [e];exact d.2.1)
 rw [e] at this
 exact this
abbrev sumM (al:Option Addr) (nl cl:Nat) (ah:Option Addr) (nh ch n:Nat) (root:List Nat):MsgD:=⟨4,0,0,al,nl,cl,ah,nh,ch,(n:Int),root,none,0,0,false⟩
theorem bld_sum {al:Option Addr} {nl cl:Nat} {ah:Option Addr} {nh ch n:Nat} {root:List Nat} (hr:gz root):eW zM [(0,1,.int .u8 4),(7,1,.slice al nl cl),(8,1,.slice ah nh ch),(9,1,ak n),(10,32,.agg (aV root).toArray)]=some (mV (sumM al nl cl ah nh ch n root)):=by
 have e:dt zM [(0,1,.int .u8 4),(7,1,.slice al nl cl),(8,1,.slice ah nh ch),(9,1,ak n),(10,32,.agg (aV root).toArray)]=dt (mHd (sumM al nl cl ah nh ch n root)++(aV z32++([.slice none 0 0,.bool false]++mZ))) [(10,32,.agg (aV root).toArray)]:=rfl
 unfold eW
 rw [e,fill_mid (A:=mHd (sumM al nl cl ah nh ch n root)) (B:=aV z32) (o:=10) (n:=32) rfl rfl rfl (aW hr).1]
 rfl
theorem is17:cd Tryd.prog 17 Tryd.f17:=⟨by kernel_rfl,by kernel_rfl,by kernel_rfl,by kernel_rfl⟩
theorem agg42:aggT Tryd.prog 42=some true:=by kernel_rfl
theorem siz42:cz Tryd.prog 42=some 116:=by kernel_rfl
theorem results17:Tryd.f17.results.toList = [.cell 6 42]:=by kernel_rfl
theorem bytes_keep {a:Option Addr} {n:Nat} {h h':ab} {l:List Nat} (e:au a n h=some l) (hk : ∀ y,a=some y→h'.get y.block=h.get y.block):au a n h'=some l:=by
 rw [←e]
 unfold au
 congr 1
 cases a with
 |none=>rfl
 |some y=>
  obtain ⟨b,o,s⟩:=y
  have:=hk _ rfl
  unfold bc
  simp only
  rw [this]
set_option maxRecDepth 100000 in
theorem r17 {h:ab} (hG:4≤h.n0) (hz:h.get 3=some bZ) {vb:Nat} {va:Value} {R:List ao} (gv:h.get vb=some [va]) (RS:RcS h va R) (nv:nilOk va) (ks:KS R) (vl:Vld R) (hR:R.length≤1000000) {al ah:Option Addr} {nl cl nh ch:Nat} {lo hi:List Nat}
  (hlo:au al nl h=some lo) (hhi:au ah nh h=some hi) (hnl:nl≤21000) (hnh:nh≤21000) :
  ∃ al' cl' ah' ch' h',CW 17 [ptr vb 0,.slice al nl cl,.slice ah nh ch] h=some (mV (sumM al' nl cl' ah' nh ch' (R.filter (fR lo hi)).length (cY (R.filter (fR lo hi)))),h')∧Old h h'∧au al' nl h'=some lo∧au ah' nh h'=some hi ∧
    (∀ y,al'=some y→h.next≤y.block∧y.block<h'.next)∧(∀ y,ah'=some y→h.next≤y.block∧y.block<h'.next):=by
 obtain ⟨h1,z1,o1,g1,n1⟩:=fresh zM h
 obtain ⟨v2,h2,e2,o2,r2⟩:=r20 (h:=h1) (cl:=cl) (ch:=ch) (by rw [o1.n0];exact hG) (Old.get o1 gv) (RS.mono o1) nv ks hR (Old.bytes o1 hlo) (Old.bytes o1 hhi)
 have O2:=o1.trans o2
 obtain ⟨al',cl',h3,e3,s3,_,o3,p3,_⟩:=r69b (h:=h2) (c:=cl) (by rw [O2.n0];exact hG) (Old.bytes O2 hlo) hnl
 have O3:=O2.trans o3
 obtain ⟨ah',ch',h4,e4,s4,_,o4,p4,_⟩:=r69b (h:=h3) (c:=ch) (by rw [O3.n0];exact hG) (Old.bytes O3 hhi) hnh
 have O4:=O3.trans o4
 have vF : ∀ r∈R.filter (fR lo hi),dK r=true:=fun r hr=>(vl r (List.mem_filter.1 hr).1).2
 have hfl:=List.length_filter_le (fR lo hi) R
 have r4:=(r2.mono o3).mono o4
 obtain ⟨h5,e5,o5⟩:=r54 (h:=h4) (by rw [O4.n0];exact hG) (Old.get O4 hz) r4 vF (by omega)
 have O5:=O4.trans o5
 have hd:=hJ (R.filter (fR lo hi))
 have hll:=r2.len
 generalize cY (R.filter (fR lo hi))=root at *
 generalize (R.filter (fR lo hi)).length=n at *
 have bs:=bld_sum (al:=al') (nl:=nl) (cl:=cl') (ah:=ah') (nh:=nh) (ch:=ch') (n:=n) hd
 have ok:=mC_ok (m:=sumM al' nl cl' ah' nh ch' n root) hd
 obtain ⟨h6,e6,k6,g6,_,n6⟩:=aS (n:=116) (k':=mC (sumM al' nl cl' ah' nh ch' n root)) (Old.get (((o2.trans o3).trans o4).trans o5) g1) (by rw [O5.n0];exact h.ax) rfl ok.1 ok.2.2
 have O6:Old h h6:=Old.bA O5 k6 (Nat.le_refl _)
 refine ⟨al',cl',ah',ch',h6,aC is17 hG rfl ((t17_eq _ _ _ _ _).trans ?_),O6,?_,?_,fun y hy => ?_,fun y hy => ?_⟩
 ·unfold t17
  have z1:dJ zM h=some (ptr h.next 0,h1):=z1
  simp -implicitDefEqProofs only [nil25,ad,af]
  refine (congrArg (fun o=>aa o _) z1).trans ?_
  simp -implicitDefEqProofs only [e2,e3,e4,hll,e5,ad,af]
  refine (congrArg (fun o=>aa (pu o _) _) bs).trans ?_
  simp -implicitDefEqProofs only [e6,ad,af]
  refine cW results17 agg42 siz42 (by decide) _ ?_
  exact bh g6 ok.1 ok.2.1
 ·refine bytes_keep (Old.bytes (o4.trans o5) s3) fun y hy=>k6.get _ ?_ ?_
  ·have:=p3 y hy
   have:=o4.next;have:=o5.next
   omega
  ·have:=p3 y hy
   have:=O2.next
   have:=o2.next
   intro q
   have q:y.block=h.next:=q
   omega
 ·refine bytes_keep (Old.bytes o5 s4) fun y hy=>k6.get _ ?_ ?_
  ·have:=p4 y hy
   have:=o5.next
   omega
  ·have:=p4 y hy
   have:=O3.next
   have:=o2.next;have:=o3.next
   intro q
   have q:y.block=h.next:=q
   omega
 ·have:=p3 y hy
  have:=o3.next;have:=O2.next;have:=o4.next;have:=o5.next
  omega
 ·have:=p4 y hy
  have:=O3.next;have:=o5.next
  omega
end Go.Proofs.YtdnahgfgoajmcaaDoor

namespace Go.Proofs.YtdnahgfgoajmcaaDoor
open Go Go.Abs
attribute [local congr] aq
theorem r57L {h:ab} (hG:4≤h.n0) {v:Value} {L:List ao} (x:RcS h v L) (hn:nilOk v) (hl:L.length≤1000000) : ∃ v' h',CW 57 [v] h=some (v',h')∧Old h h'∧GLst 39 h' h.next v' L.length (ba L):=by
 rcases hn with rfl|⟨a,n,c,rfl,_⟩
 ·have hL:L = []:=by
   obtain ⟨_,a,d,e,_⟩:=x
   injection e with _ e1 _
   exact List.length_eq_zero_iff.1 e1.symm
  subst hL
  refine ⟨.slice none 0 0,h,aC is57 hG rfl ((t57_eq _ _ _).trans ?_),Kept.refl _ _,GLst.nil 39 h h.next⟩
  unfold t57
  simp -implicitDefEqProofs only [nilT22,ad,af]
 ·have o1:Old h (h.alloc []):=Kept.alloc _ _ _
  have r0:cE (h.alloc []) h.next (.slice (some ⟨h.next,0,none⟩) 0 0) []:=⟨(fun _ h=>by cases h),h.next,none,rfl,by rw [ab.aK,if_pos rfl];rfl,Nat.le_refl _,.inl ⟨rfl,rfl⟩⟩
  obtain ⟨v',h',e,r,k,_⟩:=r0.pushL (x.mono o1) (by rw [o1.n0];exact h.ax) o1.next (by decide) hl
  rw [List.nil_append] at r
  have b0:cO 39 (.agg zrC.toArray) 0 [] h=some (.slice (some ⟨h.next,0,none⟩) 0 0,h.alloc []):=rfl
  refine ⟨v',h',aC is57 hG rfl ((t57_eq _ _ _).trans ?_),Old.bA o1 k (Nat.le_refl _),?_⟩
  ·unfold t57
   simp -implicitDefEqProofs only [nilS22,ad,af]
   refine (congrArg (fun o=>aa o _) b0).trans ?_
   simp -implicitDefEqProofs only [e, ad]
  ·obtain ⟨hw,b,s,rfl,g1,g2,g3⟩:=r
   have ok:=hI hw
   refine ⟨cG hw,ok.1,ok.2,.inr ⟨b,s,rfl,g1,g2,?_⟩⟩
   rcases g3 with ⟨q,rfl⟩|⟨q,rfl⟩
   ·exact .inl ⟨by rw [q];rfl,rfl⟩
   ·exact .inr ⟨List.length_pos_iff.2 q,rfl⟩
theorem GLst.rc {h:ab} {N:Nat} {v:Value} {L:List ao} (x:GLst 39 h N v L.length (ba L)) (hw : ∀ r∈L,ao.Wf r):RcS h v L:=by
 rcases x.form with ⟨h0,rfl⟩|⟨b,s,rfl,g,_⟩
 ·have:L = []:=List.length_eq_zero_iff.1 h0
  subst this
  exact ⟨(fun _ h=>by cases h),none,0,rfl,(fun _=>rfl),ey (P := []) (fun _ h=>by cases h),fun h=>absurd h (Nat.lt_irrefl 0)⟩
 ·exact RcS.of_blk hw rfl g
theorem r20L {h:ab} (hG:4≤h.n0) {vb:Nat} {va:Value} {R:List ao} (gv:h.get vb=some [va]) (RS:RcS h va R) (nv:nilOk va) (ks:KS R) (hR:R.length≤1000000) {al ah:Option Addr} {nl cl nh ch:Nat} {lo hi:List Nat} (hlo:au al nl h=some lo) (hhi:au ah nh h=some hi) :
  ∃ v' h',CW 20 [ptr vb 0,.slice al nl cl,.slice ah nh ch] h=some (v',h')∧Old h h'∧GLst 39 h' h.next v' (R.filter (fR lo hi)).length (ba (R.filter (fR lo hi))) ∧ ∀ r∈R.filter (fR lo hi),ao.Wf r:=by
 obtain ⟨k1,h1,e1,o1,a1,a2,a3⟩:=r56 (c:=cl) hG gv RS.rsl ks hR hlo
 have lv : ∀ g,Old h g→ld1 (ptr vb 0) g=some (va,g):=fun g og=>aQ (Old.get og gv) rfl (hole_nil nv)
 have hll:=RS.rsl.len
 have cv : ∀ g,bN true (some (va,g)) va=true:=fun g=>by
  rcases nv with rfl|⟨a,n,c,rfl,_⟩<;>exact chk_sl2 ..
 have hlen:=(aE hhi).1
 have gtr0:bin Tryd.prog .gtr 3 (ak nh) (.int .i64 0)=some (.bool (decide (0<nh))):=gtrC nh 0 0 rfl
 have hnh : ∀ n c:Nat,∀ a:Option Addr,cN (.slice a n c)=some (ak n):=fun _ _ _=>rfl
 have wf : ∀ r∈R.filter (fR lo hi),ao.Wf r:=fun r hr=>RS.1 r (List.mem_filter.1 hr).1
 by_cases h0:0<nh
 ·obtain ⟨k2,h2,e2,o2,b1,b2,b3⟩:=r56 (h:=h1) (c:=ch) (by rw [o1.n0];exact hG) (Old.get o1 gv) (RS.mono o1).rsl ks hR (Old.bytes o1 hhi)
  have O2:=o1.trans o2
  obtain ⟨v3,s3,r3,n3⟩:=(RS.mono O2).part nv (i:=k1) (j:=max k1 k2) (by omega) (by omega)
  obtain ⟨v4,h4,e4,o4,r4⟩:=r57L (h:=h2) (by rw [O2.n0];exact hG) r3 n3 (by rw [List.length_drop,List.length_take];omega)
  refine ⟨v4,h4,aC is20 hG rfl ((t20_eq _ _ _ _ _).trans ?_),O2.trans o4,?_,wf⟩
  ·unfold t20
   simp -implicitDefEqProofs only [nil25,e1,bQ,aB,Nat.zero_add,lv h1 o1,lv h (Kept.refl _ _),hll,cv,af,chk_int,Bool.and_true,hnh,gtr0,decide_eq_true h0,e2,max3,lv h2 O2,s3,e4,ad]
  ·have:(R.take (max k1 k2)).drop k1=R.filter (fR lo hi):=by
    refine cut_filter (by omega) (by omega) (fun k hk q1 q2 => ?_) (fun k hk q => ?_)
    ·have p1:=a3 k hk q1
     have p2:=b2 k hk (by omega)
     unfold fR
     rw [decide_eq_true p1,decide_eq_true p2,Bool.or_true]
     rfl
    ·unfold fR
     rcases q with q|q
     ·have:=a2 k hk q
      rw [decide_eq_false (by omega : ¬0≤fM R[k] lo),Bool.false_and]
     ·have p:=b3 k hk (by omega)
      have hne:hi ≠ []:=fun e=>by rw [e] at hlen;rw [List.length_nil] at hlen;omega
      rw [decide_eq_false hne,decide_eq_false (by omega : ¬fM R[k] hi<0),Bool.or_false,Bool.and_false]
   rw [←this]
   obtain ⟨x1,x2,x3,x4⟩:=r4
   refine ⟨x1,x2,x3,?_⟩
   rcases x4 with q|⟨b,s,q1,q2,q3,q4⟩
   ·exact .inl q
   ·exact .inr ⟨b,s,q1,q2,Nat.le_trans O2.next q3,q4⟩
 ·obtain ⟨v3,s3,r3,n3⟩:=(RS.mono o1).part nv (i:=k1) (j:=R.length) a1 (Nat.le_refl _)
  obtain ⟨v4,h4,e4,o4,r4⟩:=r57L (h:=h1) (by rw [o1.n0];exact hG) r3 n3 (by rw [List.length_drop,List.length_take];omega)
  refine ⟨v4,h4,aC is20 hG rfl ((t20_eq _ _ _ _ _).trans ?_),o1.trans o4,?_,wf⟩
  ·unfold t20
   simp -implicitDefEqProofs only [nil25,e1,bQ,aB,Nat.zero_add,lv h1 o1,lv h (Kept.refl _ _),hll,cv,af,chk_int,Bool.and_true,hnh,gtr0,decide_eq_false h0,s3,e4,ad]
  ·have:(R.take R.length).drop k1=R.filter (fR lo hi):=by
    have hnil:hi = []:=List.length_eq_zero_iff.1 (by omega)
    refine cut_filter a1 (Nat.le_refl _) (fun k hk q1 q2 => ?_) (fun k hk q => ?_)
    ·have p1:=a3 k hk q1
     unfold fR
     rw [decide_eq_true p1,decide_eq_true hnil]
     rfl
    ·unfold fR
     rcases q with q|q
     ·have:=a2 k hk q
      rw [decide_eq_false (by omega : ¬0≤fM R[k] lo),Bool.false_and]
     ·omega
   rw [←this]
   obtain ⟨x1,x2,x3,x4⟩:=r4
   refine ⟨x1,x2,x3,?_⟩
   rcases x4 with q|⟨b,s,q1,q2,q3,q4⟩
   ·exact .inl q
   ·exact .inr ⟨b,s,q1,q2,Nat.le_trans o1.next q3,q4⟩
end Go.Proofs.YtdnahgfgoajmcaaDoor

namespace Go.Proofs.YtdnahgfgoajmcaaDoor
open Go Go.Abs
attribute [local congr] aq
structure AM where
 kind:Nat
 frm:Int
 to:Int
 lo:List Nat
 hi:List Nat
 cnt:Int
 root:List Nat
 L:List ao
 want:Bool
structure MIs (g:ab) (m:MsgD) (x:AM):Prop where
 kind:m.kind=x.kind
 frm:m.frm=x.frm
 to:m.to=x.to
 cnt:m.cnt=x.cnt
 root:m.root=x.root
 want:m.want=x.want
 d32:gz x.root
 lo:au m.al m.nl g=some x.lo
 hi:au m.ah m.nh g=some x.hi
 rs:RcS g m.recs x.L
structure MOwn (g:ab) (N:Nat) (m:MsgD) (n:Nat) (cs:List Value):Prop where
 lo : ∀ y,m.al=some y→N≤y.block∧y.block<g.next
 hi : ∀ y,m.ah=some y→N≤y.block∧y.block<g.next
 rs:GLst 39 g N m.recs n cs
theorem MIs.bS {g g':ab} {m:MsgD} {x:AM} (h:MIs g m x) (o:Old g g'):MIs g' m x:=
 ⟨h.kind,h.frm,h.to,h.cnt,h.root,h.want,h.d32,Old.bytes o h.lo,Old.bytes o h.hi,h.rs.mono o⟩
def sumA (S:List ao) (lo hi:List Nat):AM:=⟨4,0,0,lo,hi,((S.filter (fR lo hi)).length:Int),cY (S.filter (fR lo hi)),[],false⟩
theorem nil_rc (h:ab):RcS h (.slice none 0 0) []:=⟨(fun _ h=>by cases h),none,0,rfl,(fun _=>rfl),ey (P := []) (fun _ h=>by cases h),fun h=>absurd h (Nat.lt_irrefl 0)⟩
theorem r17M {h:ab} (hG:4≤h.n0) (hz:h.get 3=some bZ) {vb:Nat} {va:Value} {R:List ao} (gv:h.get vb=some [va]) (RS:RcS h va R) (nv:nilOk va) (ks:KS R) (vl:Vld R) (hR:R.length≤1000000) {al ah:Option Addr} {nl cl nh ch:Nat} {lo hi:List Nat}
  (hlo:au al nl h=some lo) (hhi:au ah nh h=some hi) (hnl:nl≤21000) (hnh:nh≤21000) :
  ∃ m h',CW 17 [ptr vb 0,.slice al nl cl,.slice ah nh ch] h=some (mV m,h')∧Old h h'∧MIs h' m (sumA R lo hi)∧MOwn h' h.next m 0 []:=by
 obtain ⟨al',cl',ah',ch',h',e,o,s1,s2,p1,p2⟩:=r17 (cl:=cl) (ch:=ch) hG hz gv RS nv ks vl hR hlo hhi hnl hnh
 exact ⟨_,h',e,o,⟨rfl,rfl,rfl,rfl,rfl,rfl,hJ _,s1,s2,nil_rc h'⟩,⟨p1,p2,GLst.nil 39 h' h.next⟩⟩
end Go.Proofs.YtdnahgfgoajmcaaDoor

namespace Go.Proofs.YtdnahgfgoajmcaaDoor
open Go Go.Abs
attribute [local congr] aq
abbrev zML:List Value := [(.int .u8 0),(.int .i64 0),(.int .i64 0),(.int .u64 0),(.int .i64 0),(.int .i64 0),(.slice none 0 0),(.slice none 0 0),(.slice none 0 0),(.int .i64 0),(.int .u8 0),(.int .u8 0),(.int .u8 0),(.int .u8 0),(.int .u8 0),(.int .u8 0),(.int .u8 0),(.int .u8 0),(.int .u8 0),(.int .u8 0),(.int .u8 0),(.int .u8 0),(.int .u8 0),(.int .u8 0),(.int .u8 0),(.int .u8 0),(.int .u8 0),(.int .u8 0),(.int .u8 0),(.int .u8 0),(.int .u8 0),(.int .u8 0),(.int .u8 0),(.int .u8 0),(.int .u8 0),(.int .u8 0),(.int .u8 0),(.int .u8 0),(.int .u8 0),(.int .u8 0),(.int .u8 0),(.int .u8 0),(.slice none 0 0),(.bool false),(.int .u8 0),(.int .u8 0),(.int .u8 0),(.int .u8 0),(.int .u8 0),(.int .u8 0),(.int .u8 0),(.int .u8 0),(.int .u8 0),(.int .u8 0),(.int .u8 0),(.int .u8 0),(.int .u8 0),(.int .u8 0),(.int .u8 0),(.int .u8 0),(.int .u8 0),(.int .u8 0),(.int .u8 0),(.int .u8 0),(.int .u8 0),(.int .u8 0),(.int .u8 0),(.int .u8 0),(.int .u8 0),(.int .u8 0),(.int .u8 0),(.int .u8 0),(.int .u8 0),(.int .u8 0),(.int .u8 0),(.int .u8 0),(.int .i64 0),(.int .i64 0),(.int .i64 0),(.int .i64 0),(.int .u8 0),(.int .u8 0),(.int .u8 0),(.int .u8 0),(.int .u8 0),(.int .u8 0),(.int .u8 0),(.int .u8 0),(.int .u8 0),(.int .u8 0),(.int .u8 0),(.int .u8 0),(.int .u8 0),(.int .u8 0),(.int .u8 0),(.int .u8 0),(.int .u8 0),(.int .u8 0),(.int .u8 0),(.int .u8 0),(.int .u8 0),(.int .u8 0),(.int .u8 0),(.int .u8 0),(.int .u8 0),(.int .u8 0),(.int .u8 0),(.int .u8 0),(.int .u8 0),(.int .u8 0),(.int .u8 0),(.int .u8 0),(.slice none 0 0),(.int .i64 0),(.slice none 0 0),(.int .i64 0)]
end Go.Proofs.YtdnahgfgoajmcaaDoor

namespace Go.Proofs.YtdnahgfgoajmcaaDoor
open Go Go.Abs
attribute [local congr] aq
theorem is15:cd Tryd.prog 15 Tryd.f15:=⟨by kernel_rfl,by kernel_rfl,by kernel_rfl,by kernel_rfl⟩
theorem r26L {h:ab} (hG:4≤h.n0) {v:Value} {L:List ao} (x:RcS h v L) (hl:L.length≤1000000) : ∃ v' h',CW 26 [v] h=some (v',h')∧Old h h'∧cE h' h.next v' L:=by
 have o1:Old h (h.alloc []):=Kept.alloc _ _ _
 have r0:cE (h.alloc []) h.next (.slice (some ⟨h.next,0,none⟩) 0 0) []:=⟨(fun _ h=>by cases h),h.next,none,rfl,by rw [ab.aK,if_pos rfl];rfl,Nat.le_refl _,.inl ⟨rfl,rfl⟩⟩
 obtain ⟨v',h',e,r,k,_⟩:=r0.pushL (x.mono o1) (by rw [o1.n0];exact h.ax) o1.next (by decide) hl
 rw [List.nil_append] at r
 have b0:cO 39 (.agg #[(.int .u8 0),(.int .u8 0),(.int .u8 0),(.int .u8 0),(.int .u8 0),(.int .u8 0),(.int .u8 0),(.int .u8 0),(.int .u8 0),(.int .u8 0),(.int .u8 0),(.int .u8 0),(.int .u8 0),(.int .u8 0),(.int .u8 0),(.int .u8 0),(.int .u8 0),(.int .u8 0),(.int .u8 0),(.int .u8 0),(.int .u8 0),(.int .u8 0),(.int .u8 0),(.int .u8 0),(.int .u8 0),(.int .u8 0),(.int .u8 0),(.int .u8 0),(.int .u8 0),(.int .u8 0),(.int .u8 0),(.int .u8 0),(.int .u8 0),(.int .i64 0),(.int .u64 0),(.int .u64 0),(.bool false),(.int .i64 0),(.int .i64 0)]) 0 [] h=some (.slice (some ⟨h.next,0,none⟩) 0 0,h.alloc []):=rfl
 refine ⟨v',h',aC is26 hG rfl ((t26_eq _ _ _).trans ?_),Old.bA o1 k (Nat.le_refl _),r⟩
 unfold t26
 simp -implicitDefEqProofs only [b0, e, ad]
theorem r15 {h:ab} (hG:4≤h.n0) {v:Value} {L:List ao} (x:RcS h v L) (vr : ∀ r∈L,dK r=true) (hl:L.length≤500000) :
  ∃ vb h',CV 15 [v] h=some (.tuple #[ptr vb 0,.int .i64 0],h')∧IvH h' vb (merged [] L)∧Old h h'∧h.next≤vb:=by
 have e1:=CV_up (f:=33) rfl (by decide) (r33 hG)
 have o1:Old h (h.alloc [.slice none 0 0]):=Kept.alloc _ _ _
 have i1:IvH (h.alloc [.slice none 0 0]) h.next []:=⟨h.ax,⟨.slice none 0 0,by rw [ab.aK,if_pos rfl],⟨(fun _ h=>by cases h),none,0,rfl,fun _=>rfl,ey (P := []) (fun _ h=>by cases h),fun h=>absurd h (Nat.lt_irrefl 0)⟩,.inl rfl⟩,(fun _ h=>by cases h),.nil⟩
 generalize h.alloc [.slice none 0 0]=h1 at *
 obtain ⟨v2,h2,e2,o2,r2⟩:=r26L (h:=h1) (by rw [o1.n0];exact hG) (x.mono o1) (by omega)
 have e2:=CV_up (f:=26) rfl (by decide) e2
 obtain ⟨h3,e3,i3,k3⟩:=r25 (i1.bS o2) r2.rcs.rsl vr (by decide) hl
 refine ⟨h.next,h3,CV_body is15 hG rfl (by decide) ((t15_eq _ _ _).trans ?_),i3,Old.bA (o1.trans o2) k3 (Nat.le_refl _),Nat.le_refl _⟩
 unfold t15
 simp -implicitDefEqProofs only [e1,nil25,e2,e3,ad,af]
theorem cE.take {h:ab} {N:Nat} {v:Value} {L:List ao} (x:cE h N v L) (hL:L ≠ []) {j:Nat} (hj:j≤L.length) : ∃ v',slR 39 v none (some (ak j)) none=some v'∧RcS h v' (L.take j):=by
 obtain ⟨hw,b,s,rfl,g1,g2,g3⟩:=x
 rcases g3 with ⟨h1,_⟩|⟨_,rfl⟩
 ·exact absurd h1 hL
 ·have hd : ∀ p∈L.take j,ao.Wf p:=fun p hp=>hw p (List.mem_of_mem_take hp)
  have hl:=cG hw
  have hlt:=cG hd
  have hlen:(L.take j).length=j:=by rw [List.length_take];omega
  have hcs:(ba L).take (j*39)=ba (L.take j):=by
   have e:ba L=ba (L.take j)++ba (L.drop j):=by rw [←recsC_app,List.take_append_drop]
   rw [e,List.take_left' (by rw [hlt,hlen])]
  refine ⟨.slice (some ⟨b,0,some 39⟩) j L.length,?_,hd,some ⟨b,0,some 39⟩,L.length,by rw [hlen],(fun h=>by cases h),ey hd,fun _=>⟨b,0,some 39,ba L,rfl,g1,?_,?_⟩⟩
  ·unfold slR dP
   simp only [bnd_hi hj (Nat.le_refl _)]
   rw [if_pos ⟨True.intro,by decide⟩]
   rfl
  ·rw [show recK.length=39 from rfl,hl,hlen,Nat.zero_add]
   exact Nat.mul_le_mul_right _ hj
  ·rw [show recK.length=39 from rfl,List.drop_zero,hlen,hcs]
theorem cE.drop {h:ab} {N:Nat} {v:Value} {L:List ao} (x:cE h N v L) (hL:L ≠ []) {j:Nat} (hj:j≤L.length) : ∃ v',slR 39 v (some (ak j)) none none=some v'∧RcS h v' (L.drop j):=by
 obtain ⟨hw,b,s,rfl,g1,g2,g3⟩:=x
 rcases g3 with ⟨h1,_⟩|⟨_,rfl⟩
 ·exact absurd h1 hL
 ·have hd : ∀ p∈L.drop j,ao.Wf p:=fun p hp=>hw p (List.mem_of_mem_drop hp)
  have hl:=cG hw
  have hlt:=cG hd
  have hlen:(L.drop j).length=L.length-j:=List.length_drop ..
  have hm:(L.length-j)*39=L.length*39-j*39:=Nat.sub_mul ..
  have hjm:j*39≤L.length*39:=Nat.mul_le_mul_right _ hj
  have hdt:(L.take j).length=j:=by rw [List.length_take];omega
  have hcs:(ba L).drop (j*39)=ba (L.drop j):=by
   have e:ba L=ba (L.take j)++ba (L.drop j):=by rw [←recsC_app,List.take_append_drop]
   rw [e,List.drop_left' (by rw [cG fun p hp=>hw p (List.mem_of_mem_take hp),hdt])]
  have hb:cm L.length L.length (some (ak j)) none none=some (j,L.length,L.length):=by
   have a1:bE L.length L.length none=some L.length:=rfl
   have a2:bE 0 L.length (some (ak j))=some j:=by
    unfold bE ak
    simp only
    rw [if_pos (by omega)]
    rfl
   unfold cm
   simp only [a1,a2]
  refine ⟨.slice (some ⟨b,0+j*39,some 39⟩) (L.length-j) (L.length-j),?_,hd,some ⟨b,0+j*39,some 39⟩,L.length-j,by rw [hlen],(fun h=>by cases h),ey hd,fun _=>⟨b,0+j*39,some 39,ba L,rfl,g1,?_,?_⟩⟩
  ·unfold slR dP
   simp only [hb]
   rw [if_pos ⟨True.intro,by decide⟩]
  ·rw [show recK.length=39 from rfl,hl,hlen]
   omega
  ·rw [show recK.length=39 from rfl,Nat.zero_add,hcs,hlen,List.take_of_length_le (by rw [hlt,hlen];exact Nat.le_refl _)]
end Go.Proofs.YtdnahgfgoajmcaaDoor

namespace Go.Proofs.YtdnahgfgoajmcaaDoor
open Go Go.Abs
attribute [local congr] aq
theorem merged_len (A B:List ao):(merged A B).length≤A.length+B.length:=by
 have h1:=newest_len (A++B)
 rw [List.length_append] at h1
 have h2:=List.length_filter_le (fC (de (A++B))) (de (A++B))
 show (sortR _).length≤_
 rw [(fz _).length_eq]
 omega
def Is (T P:List ao):Prop := ∀ x,x∈T↔Nf P x
theorem cE.weak {h:ab} {N M:Nat} {v:Value} {L:List ao} (x:cE h N v L) (hm:M≤N):cE h M v L:=by
 obtain ⟨hw,b,s,rfl,g1,g2,g3⟩:=x
 exact ⟨hw,b,s,rfl,g1,Nat.le_trans hm g2,g3⟩
end Go.Proofs.YtdnahgfgoajmcaaDoor

namespace Go.Proofs.YtdnahgfgoajmcaaDoor
open Go Go.Abs
attribute [local congr] aq
open Go.Lib (compareBytes)
theorem less_cb : ∀ a b:List UInt8,Op.bytesLess a b=decide (compareBytes a b<0)
 | [],[]=>rfl
 |_::_,[]=>rfl
 | [],_::_=>rfl
 |x::a,y::b=>by
  rw [cb_cons]
  unfold Op.bytesLess
  rw [less_cb a b]
  by_cases e1:x.toNat<y.toNat
  ·have h1:x<y:=UInt8.lt_iff_toNat_lt.2 e1
   rw [if_pos e1]
   simp [h1]
  ·have h1 : ¬x<y:=fun h=>e1 (UInt8.lt_iff_toNat_lt.1 h)
   rw [if_neg e1]
   by_cases e2:y.toNat<x.toNat
   ·have h2:x≠y:=fun h=>by subst h;omega
    rw [if_pos e2]
    simp [h1,h2]
   ·have h2:x=y:=UInt8.toNat_inj.1 (by omega)
    subst h2
    rw [if_neg e2]
    simp
theorem geq_str (a b:ByteArray):bin Tryd.prog .geq 9 (.string a) (.string b)=some (.bool (!(Op.bytesLess a.toList b.toList))):=by
 unfold bin eqOk
 simp only [if_true]
 unfold binA
 simp only [ground,flat,Bool.and_self,if_true]
 have e:(binOp .geq 9 (.string a) (.string b))=pure (.bool (!(Op.bytesLess a.toList b.toList))):=rfl
 rw [e]
 rfl
end Go.Proofs.YtdnahgfgoajmcaaDoor

namespace Go.Proofs.YtdnahgfgoajmcaaDoor
open Go Go.Abs
open Go.Lib (compareBytes)
attribute [local congr] aq
theorem is105:cd Tryd.prog 105 Tryd.f105:=⟨by kernel_rfl,by kernel_rfl,by kernel_rfl,by kernel_rfl⟩
theorem is52:cd Tryd.prog 52 Tryd.f52:=⟨by kernel_rfl,by kernel_rfl,by kernel_rfl,by kernel_rfl⟩
theorem is16:cd Tryd.prog 16 Tryd.f16:=⟨by kernel_rfl,by kernel_rfl,by kernel_rfl,by kernel_rfl⟩
theorem results105:Tryd.f105.results.toList = [.tmp 4]:=by kernel_rfl
theorem b105_3e (C:ae) (e:Env) (h:ab):b105_3 C 0 e h=k105_1 C e h:=rfl
def vdQ (r x:ao):Bool:=newerR x r||((((decide (r.kind=3)&&decide (x.kind=1))&&decide (x.aH=r.aH))&&decide (r.inc<x.inc))||((decide (r.kind=3)&&decide (x.kind=2))&&decide (x.obj=r.obj)))
theorem gtr32 (a b:Nat):bin Tryd.prog .gtr 32 (.int .u64 (a:Int)) (.int .u64 (b:Int))=some (.bool (decide (b<a))):=by
 rw [bp]
 congr 2
 rw [decide_eq_decide]
 omega
set_option maxRecDepth 100000 in
theorem r105 {h:ab} (hG:4≤h.n0) (hz:GZ h) {r:ao} (w:r.Wf) {v:Value} {R:List ao} (hv:RSl h v R) (hR:R.length≤1000000) :
  ∃ h',CW 105 [dB r,v] h=some (.bool (R.any (vdQ r)),h')∧Old h h':=by
 have hll:=hv.len
 obtain ⟨h1,b1,o1,g1,n1⟩:=dG h w
 have key : ∃ q:Out,t105 CW (dB r) v h=q ∧ ∃ h',q=some (.bool (R.any (vdQ r)),h')∧Old h h':=by
  refine ⟨_,rfl,?_⟩
  unfold t105
  simp -implicitDefEqProofs only [b1,ad]
  refine bO (n:=61) (fin:=fun ex y g=>Old h g∧((ex = .exit 0∧R.any (vdQ r)=false)∨(ex = .ret∧R.any (vdQ r)=true∧y 4 = .bool true))) (Q:=fun q:Out => ∃ h',q=some (.bool (R.any (vdQ r)),h')∧Old h h')
   (bP (t105l105_1010_eq CW) (Inv:=fun k y g => ∃ i,i+k=R.length∧y 1=v∧y 2=ptr h.next 0∧y 5=ak i∧Old h1 g∧(R.take i).any (vdQ r)=false) ?_ R.length (by have:rounds=18446744073709551616:=rfl;omega) ⟨0,by omega,rfl,rfl,rfl,Kept.refl _ _,by simp⟩) ?_
  ·rintro k y g ⟨i,hik,y1,y2,y5,Og,hf⟩
   have O:=o1.trans Og
   unfold t105l105_1010
   simp -implicitDefEqProofs only [y1,y5,hll,lss3,ad,af]
   by_cases hi:i<R.length
   ·obtain ⟨b,oo,ix,wr,ld⟩:=hv.rd hi
    have hany:=any_take hi (vdQ r)
    rw [hf,Bool.false_or] at hany
    have a5:bin Tryd.prog .add 3 (ak i) (.int .i64 1)=some (ak (i+1)):=fc (by omega)
    have whole:vdQ r R[i]=true→R.any (vdQ r)=true:=fun q=>by
     rw [List.any_eq_true]
     exact ⟨R[i],List.getElem_mem hi,q⟩
    generalize R[i]=x at *
    obtain ⟨h2,h3,e2,e3,o3,g3⟩:=rec_var g wr
    have O3:=Og.trans o3
    obtain ⟨h4,e4,o4⟩:=r49 (h:=h3) (by rw [O3.n0,o1.n0];exact hG) ((hz.bS o1).bS O3) wr w
    have O4:=O3.trans o4
    have LX:=bh g3 (bg wr).1 (bg wr).2.1
    have LR:=bh (Old.get O3 g1) (bg w).1 (bg w).2.1
    have X:=r_ld wr (Old.get o4 g3)
    have Y:=r_ld w (Old.get O4 g1)
    have ret : ∀ x':Nat→Value,x' 4 = .bool true→vdQ r x=true→dU 61 (fun k y g => ∃ i,i+k=R.length∧y 1=v∧y 2=ptr h.next 0∧y 5=ak i∧Old h1 g∧(R.take i).any (vdQ r)=false) (fun ex y g=>Old h g∧((ex = .exit 0∧R.any (vdQ r)=false)∨(ex = .ret∧R.any (vdQ r)=true∧y 4 = .bool true))) k (some (.ret,aO 61 x',h4)):=fun x' h4 q=>dU.ret ⟨o1.trans O4,.inr ⟨rfl,whole q,h4⟩⟩
    have nxt : ∀ x':Nat→Value,x' 1=y 1→x' 2=y 2→x' 5=ak (i+1)→vdQ r x=false→dU 61 (fun k y g => ∃ i,i+k=R.length∧y 1=v∧y 2=ptr h.next 0∧y 5=ak i∧Old h1 g∧(R.take i).any (vdQ r)=false) (fun ex y g=>Old h g∧((ex = .exit 0∧R.any (vdQ r)=false)∨(ex = .ret∧R.any (vdQ r)=true∧y 4 = .bool true))) k (some (.normal,aO 61 x',h4)):=fun x' q1 q2 q5 q=>dU.next (k-1) (by omega) ⟨i+1,by omega,q1.trans y1,q2.trans y2,q5,O4,by rw [hany];exact q⟩
    simp -implicitDefEqProofs only [decide_eq_true hi, y2, ix, ld g O, e2, e3, LX, LR, e4, aB, Nat.zero_add, ad, af]
    cases hn:newerR x r with
    |true=>
     simp -implicitDefEqProofs only [bt', bu', aw, if_true, ad]
     exact ret _ rfl (by unfold vdQ;rw [hn];rfl)
    |false=>
     by_cases hr:r.kind=3
     ·by_cases hx:x.kind=1
      ·have hx2 : ¬x.kind=2:=by omega
       by_cases hh:x.aH=r.aH
       ·by_cases hc:r.inc<x.inc
        ·simp -implicitDefEqProofs only [X.l0, X.l33, X.l34, Y.l0, Y.l33, Y.l34, bt', bt, bf, aw, ay, if_true, Bool.false_eq_true, if_false, eq56, eql56 x.kind 1 1 rfl, eqI, gtr32, decide_eq_true hr, decide_eq_true hx, decide_eq_true hh, decide_eq_true hc, ad, af]
         exact ret _ rfl (by unfold vdQ;simp [hr,hx,hh,hc])
        ·simp -implicitDefEqProofs only [X.l0, X.l33, X.l34, Y.l0, Y.l33, Y.l34, bt, bf, bf', aw, ay, if_true, Bool.false_eq_true, if_false, eq56, eql56 x.kind 1 1 rfl, eql56 x.kind 2 2 rfl, eqI, gtr32, decide_eq_true hr, decide_eq_true hx, decide_eq_true hh, decide_eq_false hc, decide_eq_false hx2, a5, ad, af]
         exact nxt _ rfl rfl rfl (by unfold vdQ;simp [hn,hc,hx2])
       ·simp -implicitDefEqProofs only [X.l0, X.l33, Y.l0, Y.l33, bt, bf, bf', aw, ay, if_true, Bool.false_eq_true, if_false, eq56, eql56 x.kind 1 1 rfl, eql56 x.kind 2 2 rfl, eqI, decide_eq_true hr, decide_eq_true hx, decide_eq_false hh, decide_eq_false hx2, a5, ad, af]
        exact nxt _ rfl rfl rfl (by unfold vdQ;simp [hn,hh,hx2])
      ·by_cases hx2:x.kind=2
       ·by_cases ho:x.obj=r.obj
        ·simp -implicitDefEqProofs only [X.l0, X.l1, Y.l0, Y.l1, bt, bf, bf', aw, ay, if_true, Bool.false_eq_true, if_false, eq56, eql56 x.kind 1 1 rfl, eql56 x.kind 2 2 rfl, eqD35 wr.obj w.obj, decide_eq_true hr, decide_eq_false hx, decide_eq_true hx2, decide_eq_true ho, ad, af]
         exact ret _ rfl (by unfold vdQ;simp [hr,hx2,ho])
        ·simp -implicitDefEqProofs only [X.l0, X.l1, Y.l0, Y.l1, bt, bf, bf', aw, ay, if_true, Bool.false_eq_true, if_false, eq56, eql56 x.kind 1 1 rfl, eql56 x.kind 2 2 rfl, eqD35 wr.obj w.obj, decide_eq_true hr, decide_eq_false hx, decide_eq_true hx2, decide_eq_false ho, a5, ad, af]
         exact nxt _ rfl rfl rfl (by unfold vdQ;simp [hn,hx,ho])
       ·simp -implicitDefEqProofs only [X.l0, Y.l0, bt, bf, bf', aw, ay, if_true, Bool.false_eq_true, if_false, eq56, eql56 x.kind 1 1 rfl, eql56 x.kind 2 2 rfl, decide_eq_true hr, decide_eq_false hx, decide_eq_false hx2, a5, ad, af]
        exact nxt _ rfl rfl rfl (by unfold vdQ;simp [hn,hx,hx2])
     ·simp -implicitDefEqProofs only [Y.l0, bf, bf', aw, ay, Bool.false_eq_true, if_false, eq56, decide_eq_false hr, a5, ad, af]
      exact nxt _ rfl rfl rfl (by unfold vdQ;simp [hn,hr])
   ·have hE:i=R.length:=by omega
    rw [hE,List.take_length] at hf
    simp -implicitDefEqProofs only [decide_eq_false hi]
    exact dU.out 0 ⟨O,.inl ⟨rfl,hf⟩⟩
  ·rintro ex z g ⟨Og,⟨rfl,q⟩|⟨rfl,q,z4⟩⟩
   ·simp -implicitDefEqProofs only [bB,b105_3e,t105k105_1_eq]
    unfold t105k105_1
    rw [q]
    exact ⟨g,rfl,Og⟩
   ·rw [endL_ret,res_one results105 (by decide),z4,q]
    exact ⟨g,rfl,Og⟩
 obtain ⟨q,e,h',e',oo⟩:=key
 exact ⟨h',aC is105 hG rfl ((t105_eq _ _ _ _).trans (e.trans e')),oo⟩
end Go.Proofs.YtdnahgfgoajmcaaDoor

namespace Go.Proofs.YtdnahgfgoajmcaaDoor
open Go Go.Abs
attribute [local congr] aq
theorem nqE (n:Int):bin Tryd.prog .neq 26 (.int .i64 n) (.int .i64 n)=some (.bool false):=by rw [a7];simp
theorem b0_recs (h:ab):cO 39 (.agg #[(.int .u8 0),(.int .u8 0),(.int .u8 0),(.int .u8 0),(.int .u8 0),(.int .u8 0),(.int .u8 0),(.int .u8 0),(.int .u8 0),(.int .u8 0),(.int .u8 0),(.int .u8 0),(.int .u8 0),(.int .u8 0),(.int .u8 0),(.int .u8 0),(.int .u8 0),(.int .u8 0),(.int .u8 0),(.int .u8 0),(.int .u8 0),(.int .u8 0),(.int .u8 0),(.int .u8 0),(.int .u8 0),(.int .u8 0),(.int .u8 0),(.int .u8 0),(.int .u8 0),(.int .u8 0),(.int .u8 0),(.int .u8 0),(.int .u8 0),(.int .i64 0),(.int .u64 0),(.int .u64 0),(.bool false),(.int .i64 0),(.int .i64 0)]) 0 [] h=some (.slice (some ⟨h.next,0,none⟩) 0 0,h.alloc []):=rfl
end Go.Proofs.YtdnahgfgoajmcaaDoor

namespace Go.Proofs.YtdnahgfgoajmcaaDoor
open Go Go.Abs
open Go.Lib (compareBytes)
attribute [local congr] aq
theorem results52:Tryd.f52.results.toList = [.tmp 2,.tmp 3]:=by kernel_rfl
theorem b52_4e (C:ae) (e:Env) (h:ab):b52_4 C 0 e h=k52_2 C e h:=rfl
theorem b52_9e (C:ae) (e:Env) (h:ab):b52_9 C 1 e h=k52_8 C e h:=rfl
theorem b52_17e (C:ae) (e:Env) (h:ab):b52_17 C 2 e h=k52_16 C e h:=rfl
theorem lss_str (a b:ByteArray):bin Tryd.prog .lss 9 (.string a) (.string b)=some (.bool (Op.bytesLess a.toList b.toList)):=by
 unfold bin eqOk
 simp only [if_true]
 unfold binA
 simp only [ground,flat,Bool.and_self,if_true]
 have e:(binOp .lss 9 (.string a) (.string b))=pure (.bool (Op.bytesLess a.toList b.toList)):=rfl
 rw [e]
 rfl
theorem lss_key (a b:ao):bin Tryd.prog .lss 9 (.string (strOf (keyB a))) (.string (strOf (keyB b)))=some (.bool (decide (ek a b<0))):=by
 have hl : ∀ l:List Nat,(strOf l).toList=l.map UInt8.ofNat:=fun l=>Go.ByteArray.toList_mk _
 rw [lss_str,less_cb,hl,hl]
 rfl
theorem chkRec {r:ao} (w:r.Wf) (g:ab):bN true (some (dB r,g)) (dB r)=true:=chk_agg _ _ (cq w).kinds
set_option maxRecDepth 100000 in
theorem nl_in {h g0:ab} (hG:4≤h.n0) (O:Old h g0) {v w:Value} {R out:List ao} (hv:RSl h v R) {i:Nat} (hi:i<R.length) {N:Nat} (hw:cE g0 N w out) (hl:out.length≤1000000)
  {x:Nat→Value} (x0:x 0=v) (x4:x 4=w) (x5:x 5=ak i) (x6:x 6=ak 0) :
  Fin 76 (fun ex y g=>ex = .exit 2∧Old g0 g∧y 0=v∧y 4=w∧y 5=ak i ∧ ∃ a,y 6=ak a∧a≤out.length∧(∀ j,(hj:j<out.length)→j<a→ek out[j] R[i]<0) ∧ ∀ ha:a<out.length,¬ek out[a] R[i]<0) (iter (av Tryd.prog CW (partOf Tryd.f52 [1,1,0,1,0,0,1,0,0,1,1,1,0,0,0])) rounds (aO 76 x) g0):=by
 have hol:=hw.rcs.rsl.len
 obtain ⟨bi,oi,ixi,wi,ldi⟩:=hv.rd hi
 refine bP (t52l52_11010010011100_eq CW) (Inv:=fun k y g => ∃ a,a+k=out.length∧y 0=v∧y 4=w∧y 5=ak i∧y 6=ak a∧Old g0 g ∧ ∀ j,(hj:j<out.length)→j<a→ek out[j] R[i]<0) ?_ out.length (by have:rounds=18446744073709551616:=rfl;omega) ⟨0,by omega,x0,x4,x5,x6,Kept.refl _ _,fun j _ hj=>absurd hj (Nat.not_lt_zero j)⟩
 rintro k y g ⟨a,hak,y0,y4,y5,y6,Og,lo⟩
 unfold fa
 simp -implicitDefEqProofs only [y4,y6,hol,lss3,ad,af]
 by_cases ha:a<out.length
 ·obtain ⟨b,o,ix,wr,ld⟩:=hw.rcs.rsl.rd ha
  obtain ⟨g1,e1,o1⟩:=r59 (h:=g) (by rw [(O.trans Og).n0];exact hG) wr
  have O1:=Og.trans o1
  obtain ⟨g2,e2,o2⟩:=r59 (h:=g1) (by rw [(O.trans O1).n0];exact hG) wi
  have O2:=O1.trans o2
  have a6:bin Tryd.prog .add 3 (ak a) (.int .i64 1)=some (ak (a+1)):=fc (by omega)
  simp -implicitDefEqProofs only [decide_eq_true ha, bt, ay, ix, ld g Og, e1, y0, y5, ixi, ldi g1 (O.trans O1), e2, lss_key, ldi g (O.trans Og), chkRec wi, Bool.and_true, if_true, ad, af]
  by_cases hc:ek out[a] R[i]<0
  ·simp -implicitDefEqProofs only [decide_eq_true hc, a6, ad, af]
   refine dU.next (k-1) (by omega) ⟨a+1,by omega,y0,y4,y5,rfl,O2,fun j hj h => ?_⟩
   rcases Nat.lt_or_ge j a with h1|h1
   ·exact lo j hj h1
   ·have:j=a:=by omega
    subst this
    exact hc
  ·simp -implicitDefEqProofs only [decide_eq_false hc]
   exact dU.out 2 ⟨rfl,O2,y0,y4,y5,a,y6,by omega,lo,fun _=>hc⟩
 ·simp -implicitDefEqProofs only [decide_eq_false ha, bf', aw, Bool.false_eq_true, if_false, chkJ, Bool.and_true, ad]
  exact dU.out 2 ⟨rfl,Og,y0,y4,y5,a,y6,by omega,lo,fun h=>absurd h ha⟩
theorem ks_ins {out:List ao} {r:ao} {a:Nat} (ks:KS out) (ha:a≤out.length) (lo : ∀ j,(hj:j<out.length)→j<a→ek out[j] r<0) (hi : ∀ h:a<out.length,¬ek out[a] r<0) (un : ∀ x∈out,ek x r=0→x=r) :
  (∀ h:a<out.length,out[a]≠r)→KS (out.take a ++ [r]++out.drop a):=by
 intro hne
 unfold KS at *
 have h1:=ks
 rw [←List.take_append_drop a out,List.pairwise_append] at h1
 obtain ⟨k1,k2,k3⟩:=h1
 have lt1 : ∀ x∈out.take a,ek x r<0:=fun x hx=>by
  obtain ⟨j,hj,rfl⟩:=List.mem_iff_getElem.1 hx
  rw [List.length_take] at hj
  rw [List.getElem_take]
  exact lo j (by omega) (by omega)
 have lt2 : ∀ x∈out.drop a,ek r x<0:=fun x hx=>by
  obtain ⟨j,hj,rfl⟩:=List.mem_iff_getElem.1 hx
  rw [List.length_drop] at hj
  have hal:a<out.length:=by omega
  have h2:=hi hal
  have h3:ek out[a] r≠0:=fun e=>hne hal (un _ (List.getElem_mem hal) e)
  have h4:ek r out[a]<0:=by
   have:=cb_neg (keyU out[a]) (keyU r)
   unfold ek at *
   omega
  rw [List.getElem_drop]
  rcases Nat.eq_zero_or_pos j with rfl|hj0
  ·exact h4
  ·have h5:=ks_lt (R:=out) ks (i:=a) (j:=a+j) (by omega) (by omega)
   exact cb_trans _ _ _ h4 h5
 rw [List.pairwise_append]
 refine ⟨?_,k2,fun x hx y hy => ?_⟩
 ·rw [List.pairwise_append]
  exact ⟨k1,List.pairwise_singleton _ _,fun x hx y hy=>by rw [List.mem_singleton.1 hy];exact lt1 x hx⟩
 ·rcases List.mem_append.1 hx with h|h
  ·exact k3 x h y hy
  ·rw [List.mem_singleton.1 h]
   exact lt2 y hy
theorem vd_uniq {R:List ao} {x r:ao} (hx:x∈R) (hr:r∈R) (wx:x.Wf) (wr:r.Wf) (vx:dK x=true) (vr:dK r=true) (nx:R.any (vdQ x)=false) (nr:R.any (vdQ r)=false) (h:ek x r=0):x=r:=by
 have ha:=key_place wx wr vx vr h
 have ha':atB r x=true:=by rw [eg];exact ha
 rw [List.any_eq_false] at nx nr
 have h1:=nx r hr
 have h2:=nr x hx
 unfold vdQ at h1 h2
 simp only [Bool.or_eq_true,not_or] at h1 h2
 have h1:=h1.1
 have h2:=h2.1
 rw [←newer_same wr wx] at h1
 rw [←newer_same wx wr] at h2
 unfold newerB at h1 h2
 simp only [vx,vr,ha,ha',Bool.true_and,decide_eq_true_eq] at h1 h2
 refine cmpR_eq ha ?_
 have:=cmpR_neg x r
 omega
theorem cE.takeA {h:ab} {N:Nat} {v:Value} {L:List ao} (x:cE h N v L) {j:Nat} (hj:j≤L.length) : ∃ v',slR 39 v none (some (ak j)) none=some v'∧RcS h v' (L.take j):=by
 by_cases hL:L = []
 ·subst hL
  obtain rfl:j=0:=by rw [List.length_nil] at hj;omega
  obtain ⟨hw,b,s,rfl,g1,g2,g3⟩:=x
  rcases g3 with ⟨_,rfl⟩|⟨h,_⟩
  ·exact ⟨.slice (some ⟨b,0,none⟩) 0 0,rfl,RcS.of_blk (P := []) (fun _ h=>by cases h) rfl g1⟩
  ·exact absurd rfl h
 ·exact x.take hL hj
theorem cE.dropA {h:ab} {N:Nat} {v:Value} {L:List ao} (x:cE h N v L) {j:Nat} (hj:j≤L.length) : ∃ v',slR 39 v (some (ak j)) none none=some v'∧RcS h v' (L.drop j):=by
 by_cases hL:L = []
 ·subst hL
  obtain rfl:j=0:=by rw [List.length_nil] at hj;omega
  obtain ⟨hw,b,s,rfl,g1,g2,g3⟩:=x
  rcases g3 with ⟨_,rfl⟩|⟨h,_⟩
  ·exact ⟨.slice (some ⟨b,0,none⟩) 0 0,rfl,RcS.of_blk (P := []) (fun _ h=>by cases h) rfl g1⟩
  ·exact absurd rfl h
 ·exact x.drop hL hj
end Go.Proofs.YtdnahgfgoajmcaaDoor

namespace Go.Proofs.YtdnahgfgoajmcaaDoor
open Go Go.Abs
open Go.Lib (compareBytes)
attribute [local congr] aq
theorem is58:cd Tryd.prog 58 Tryd.f58:=⟨by kernel_rfl,by kernel_rfl,by kernel_rfl,by kernel_rfl⟩
theorem is21:cd Tryd.prog 21 Tryd.f21:=⟨by kernel_rfl,by kernel_rfl,by kernel_rfl,by kernel_rfl⟩
theorem is18:cd Tryd.prog 18 Tryd.f18:=⟨by kernel_rfl,by kernel_rfl,by kernel_rfl,by kernel_rfl⟩
theorem b21_4e (C:ae) (e:Env) (h:ab):b21_4 C 0 e h=k21_2 C e h:=rfl
theorem geq_by (a b:List Nat):bin Tryd.prog .geq 9 (.string (strOf a)) (.string (strOf b))=some (.bool (decide (0≤compareBytes (a.map UInt8.ofNat) (b.map UInt8.ofNat)))):=by
 have hl : ∀ l:List Nat,(strOf l).toList=l.map UInt8.ofNat:=fun l=>Go.ByteArray.toList_mk _
 rw [geq_str,less_cb,hl,hl]
 congr 2
 by_cases h:compareBytes (a.map UInt8.ofNat) (b.map UInt8.ofNat)<0
 ·rw [decide_eq_true h,decide_eq_false (by omega)];rfl
 ·rw [decide_eq_false h,decide_eq_true (by omega)];rfl
theorem lss_by (a b:List Nat):bin Tryd.prog .lss 9 (.string (strOf a)) (.string (strOf b))=some (.bool (decide (compareBytes (a.map UInt8.ofNat) (b.map UInt8.ofNat)<0))):=by
 have hl : ∀ l:List Nat,(strOf l).toList=l.map UInt8.ofNat:=fun l=>Go.ByteArray.toList_mk _
 rw [lss_str,less_cb,hl,hl]
theorem r58 {h:ab} (hG:4≤h.n0) {r:ao} {al ah:Option Addr} {nl cl nh ch:Nat} {lo hi:List Nat} (hlo:au al nl h=some lo) (hhi:au ah nh h=some hi) :
  CW 58 [.string (strOf (keyB r)),.slice al nl cl,.slice ah nh ch] h=some (.bool (fR lo hi r),h):=by
 have c1:=fj (c:=cl) hlo
 have c2:=fj (c:=ch) hhi
 have hlen:=(aE hhi).1
 have g1:bin Tryd.prog .geq 9 (.string (strOf (keyB r))) (.string (strOf lo))=some (.bool (decide (0≤fM r lo))):=geq_by _ _
 have g2:bin Tryd.prog .lss 9 (.string (strOf (keyB r))) (.string (strOf hi))=some (.bool (decide (fM r hi<0))):=lss_by _ _
 have ln:cN (.slice ah nh ch)=some (ak nh):=rfl
 have e0:bin Tryd.prog .eql 3 (ak nh) (.int .i64 0)=some (.bool (decide (hi = []))):=by
  rw [show (Value.int .i64 0)=ak 0 from rfl]
  unfold ak
  rw [eqI]
  congr 2
  rw [decide_eq_decide,←List.length_eq_zero_iff]
  omega
 refine aC is58 hG rfl ((t58_eq _ _ _ _ _).trans ?_)
 unfold t58 fR
 simp -implicitDefEqProofs only [c1,g1,ad,af]
 by_cases h1:0≤fM r lo
 ·by_cases h2:hi = []
  ·simp -implicitDefEqProofs only [decide_eq_true h1,bt,bt',ay,aw,ln,e0,decide_eq_true h2,if_true,ad,af]
   rfl
  ·simp -implicitDefEqProofs only [decide_eq_true h1,bt,bf,ay,ln,e0,decide_eq_false h2,c2,g2,if_true,Bool.false_eq_true,if_false,ad,af]
   rfl
 ·simp -implicitDefEqProofs only [decide_eq_false h1, bf', bu, aw, Bool.false_eq_true, if_false, ad]
  rfl
set_option maxRecDepth 100000 in
theorem r21 {h:ab} (hG:4≤h.n0) {v:Value} {R:List ao} (hv:RSl h v R) (hR:R.length≤100000) {al ah:Option Addr} {nl cl nh ch:Nat} {lo hi:List Nat} (hlo:au al nl h=some lo) (hhi:au ah nh h=some hi) :
  ∃ w h',CW 21 [v,.slice al nl cl,.slice ah nh ch] h=some (w,h')∧Old h h'∧cE h' h.next w (R.filter (fR lo hi)):=by
 have hll:=hv.len
 have b0:=b0_recs h
 have o1:Old h (h.alloc []):=Kept.alloc _ _ _
 have r0:cE (h.alloc []) h.next (.slice (some ⟨h.next,0,none⟩) 0 0) []:=⟨(fun _ h=>by cases h),h.next,none,rfl,by rw [ab.aK,if_pos rfl];rfl,Nat.le_refl _,.inl ⟨rfl,rfl⟩⟩
 generalize h.alloc []=h1 at *
 generalize Value.slice (some ⟨h.next,0,none⟩) 0 0=w0 at *
 have key : ∃ q:Out,t21 CW v (.slice al nl cl) (.slice ah nh ch) h=q ∧ ∃ w h',q=some (w,h')∧Old h h'∧cE h' h.next w (R.filter (fR lo hi)):=by
  refine ⟨_,rfl,?_⟩
  unfold t21
  simp -implicitDefEqProofs only [b0, ad]
  refine bO (n:=32) (fin:=fun ex y g=>ex = .exit 0∧Old h g∧cE g h.next (y 7) (R.filter (fR lo hi)))
   (Q:=fun q:Out => ∃ w h',q=some (w,h')∧Old h h'∧cE h' h.next w (R.filter (fR lo hi)))
   (bP (t21l21_11010_eq CW) (Inv:=fun k y g => ∃ i,i+k=R.length∧y 0=v∧y 1 = .slice al nl cl∧y 2 = .slice ah nh ch∧y 8=ak i∧Old h g∧cE g h.next (y 7) ((R.take i).filter (fR lo hi))) ?_ R.length (by have:rounds=18446744073709551616:=rfl;omega) ⟨0,by omega,rfl,rfl,rfl,rfl,o1,by rw [List.take_zero];exact r0⟩) ?_
  ·rintro k y g ⟨i,hik,y0,y1,y2,y8,Og,rl⟩
   unfold t21l21_11010
   simp -implicitDefEqProofs only [y0,y8,hll,lss3,ad,af]
   by_cases hi':i<R.length
   ·obtain ⟨b,oo,ix,wr,ld⟩:=hv.rd hi'
    obtain ⟨g1,e1,q1⟩:=r59 (h:=g) (by rw [Og.n0];exact hG) wr
    have O1:=Og.trans q1
    have e2:=r58 (h:=g1) (r:=R[i]) (cl:=cl) (ch:=ch) (by rw [O1.n0];exact hG) (Old.bytes O1 hlo) (Old.bytes O1 hhi)
    have a8:bin Tryd.prog .add 3 (ak i) (.int .i64 1)=some (ak (i+1)):=fc (by omega)
    have ft:(R.take (i+1)).filter (fR lo hi)=(R.take i).filter (fR lo hi)++if fR lo hi R[i]=true then [R[i]] else []:=by
     rw [List.take_succ_eq_append_getElem hi',List.filter_append,List.filter_cons,List.filter_nil]
    have rl1:=rl.bS q1
    have hfl:=List.length_filter_le (fR lo hi) (R.take i)
    rw [List.length_take] at hfl
    cases hin:fR lo hi R[i] with
    |true=>
     rw [hin,if_pos rfl] at ft
     rw [hin] at e2
     have br:=bsl_rec wr g1
     have o3:Old g1 (g1.alloc (recC R[i])):=Kept.alloc _ _ _
     obtain ⟨w4,g4,e4,r4,k4⟩:=(rl1.bS o3).push (c:=g1.next) (by rw [o3.n0,O1.n0];exact h.ax) (O1.trans o3).next wr (by omega) (by rw [ab.aK,if_pos rfl])
     have O4:Old h g4:=Old.bA (O1.trans o3) k4 rl1.cx.1
     simp -implicitDefEqProofs only [decide_eq_true hi', y1, y2, ix, ld g Og, e1, e2, ld g1 O1, br, e4, a8, ad, af]
     exact dU.next (k-1) (by omega) ⟨i+1,by omega,y0,y1,y2,rfl,O4,by rw [ft];exact r4⟩
    |false=>
     rw [hin,if_neg (by decide),List.append_nil] at ft
     rw [hin] at e2
     simp -implicitDefEqProofs only [decide_eq_true hi', y1, y2, ix, ld g Og, e1, e2, a8, ad, af]
     exact dU.next (k-1) (by omega) ⟨i+1,by omega,y0,y1,y2,rfl,O1,by rw [ft];exact rl1⟩
   ·have hE:i=R.length:=by omega
    rw [hE,List.take_length] at rl
    simp -implicitDefEqProofs only [decide_eq_false hi']
    exact dU.out 0 ⟨rfl,Og,rl⟩
  ·rintro ex z g ⟨rfl,Og,rl⟩
   simp -implicitDefEqProofs only [bB,b21_4e,t21k21_2_eq]
   unfold t21k21_2
   exact ⟨z 7,g,rfl,Og,rl⟩
 obtain ⟨q,e,w,h',e',oo⟩:=key
 exact ⟨w,h',aC is21 hG rfl ((t21_eq _ _ _ _ _).trans (e.trans e')),oo⟩
end Go.Proofs.YtdnahgfgoajmcaaDoor

namespace Go.Proofs.YtdnahgfgoajmcaaDoor
open Go Go.Abs
attribute [local congr] aq
theorem copyB {h:ab} {a:Option Addr} {n c:Nat} {l:List Nat} (hl:au a n h=some l) (hn:n≤21000) : ∃ b s c' h',aD 1 1 (.slice (some ⟨h.next,0,none⟩) 0 0) (.slice a n c) (h.alloc [])=some (.slice (some ⟨b,0,s⟩) n c',h')∧au (some ⟨b,0,s⟩) n h'=some l∧Old h h':=by
 have hl1:au a n (h.alloc [])=some l:=gf hl fun _ _ hc=>ab.gJ hc _
 obtain ⟨b,s,c',g',e1,e2,e3,e4,e5,e6,e7⟩:=append_fresh (g:=h.alloc []) (E:=h.next) (c:=c) h.ax hl1 hn
 exact ⟨b,s,c',g',e1,e2,(Kept.alloc h [] _).trans ⟨e5,e6,fun d hd _=>e7 d hd⟩⟩
theorem eqII (n:Int):bin Tryd.prog .eql 3 (.int .i64 n) (.int .i64 n)=some (.bool true):=by rw [eqI,decide_eq_true rfl]
theorem eqDD {d:List Nat} (w:gz d):bin Tryd.prog .eql 35 (.agg (aV d).toArray) (.agg (aV d).toArray)=some (.bool true):=by rw [eqD35 w w,decide_eq_true rfl]
end Go.Proofs.YtdnahgfgoajmcaaDoor

namespace Go.Proofs.YtdnahgfgoajmcaaDoor
open Go Go.Abs
open Go.Lib (compareBytes)
attribute [local congr] aq
theorem is22:cd Tryd.prog 22 Tryd.f22:=⟨by kernel_rfl,by kernel_rfl,by kernel_rfl,by kernel_rfl⟩
theorem results18:Tryd.f18.results.toList = [.cell 6 42]:=by kernel_rfl
theorem cE.gR {h:ab} {N:Nat} {v:Value} {L:List ao} (x:cE h N v L):gR v:=by
 obtain ⟨hw,b,s,rfl,g1,g2,g3⟩:=x
 refine ⟨_,_,_,rfl,Nat.le_refl _,fun h0 b' o' s' e => ?_⟩
 rcases g3 with ⟨q,_⟩|⟨_,rfl⟩
 ·rw [q] at h0;exact absurd h0 (Nat.lt_irrefl 0)
 ·cases e;rfl
theorem copyB2 {h:ab} {a:Option Addr} {n c:Nat} {l:List Nat} (hl:au a n h=some l) (hn:n≤21000) : ∃ b s c' h',aD 1 1 (.slice (some ⟨h.next,0,none⟩) 0 0) (.slice a n c) (h.alloc [])=some (.slice (some ⟨b,0,s⟩) n c',h')∧au (some ⟨b,0,s⟩) n h'=some l∧Old h h'∧h.next≤b∧b<h'.next:=by
 have hl1:au a n (h.alloc [])=some l:=gf hl fun _ _ hc=>ab.gJ hc _
 obtain ⟨b,s,c',g',e1,e2,e3,e4,e5,e6,e7⟩:=append_fresh (g:=h.alloc []) (E:=h.next) (c:=c) h.ax hl1 hn
 have hn1:(h.alloc []).next=h.next+1:=rfl
 refine ⟨b,s,c',g',e1,e2,(Kept.alloc h [] _).trans ⟨e5,e6,fun d hd _=>e7 d hd⟩,?_,?_⟩
 ·rcases e4 with e4|⟨e4,_⟩<;>omega
 ·rcases e4 with e4|⟨e4,e8⟩<;>omega
set_option maxRecDepth 100000 in
theorem r18M {h:ab} (hG:4≤h.n0) (hr:GR h) (hz:GZ h) {v:Value} {R:List ao} (hv:RSl h v R) (vl : ∀ r∈R,dK r=true) (hR:R.length≤100000) {al ah:Option Addr} {nl cl nh ch:Nat} {lo hi:List Nat} (hlo:au al nl h=some lo) (hhi:au ah nh h=some hi) (hnl:nl≤20000) (hnh:nh≤20000) :
  ∃ m h',CW 18 [v,.slice al nl cl,.slice ah nh ch] h=some (mV m,h')∧Old h h'∧MIs h' m (sumA R lo hi):=by
 obtain ⟨h1,z1,o1,g1,n1⟩:=fresh zML h
 obtain ⟨w2,h2,e2,o2,r2⟩:=r21 (h:=h1) (cl:=cl) (ch:=ch) (by rw [o1.n0];exact hG) (hv.mono o1) hR (Old.bytes o1 hlo) (Old.bytes o1 hhi)
 have O2:=o1.trans o2
 obtain ⟨b3,s3,c3,h3,e3,p3,o3,l3,u3⟩:=copyB2 (c:=cl) (Old.bytes O2 hlo) (by omega)
 have O3:=O2.trans o3
 obtain ⟨b4,s4,c4,h4,e4,p4,o4,l4,u4⟩:=copyB2 (c:=ch) (Old.bytes O3 hhi) (by omega)
 have O4:=O3.trans o4
 have r4:=(r2.bS o3).bS o4
 have hll:=r4.rcs.rsl.len
 have hfl:=List.length_filter_le (fR lo hi) R
 obtain ⟨h5,e5,o5⟩:=r55 (R.filter (fR lo hi)).length (h:=h4) (by rw [O4.n0];exact hG) (hr.bS O4) (hz.bS O4) rfl (by omega) r4.rcs.rsl r4.gR (fun r hr=>vl r (List.mem_filter.1 hr).1)
 have O5:=O4.trans o5
 have hd:=hJ (R.filter (fR lo hi))
 have bs:=bld_sum (al:=some ⟨b3,0,s3⟩) (nl:=nl) (cl:=c3) (ah:=some ⟨b4,0,s4⟩) (nh:=nh) (ch:=c4) (n:=(R.filter (fR lo hi)).length) hd
 have ok:=mC_ok (m:=sumM (some ⟨b3,0,s3⟩) nl c3 (some ⟨b4,0,s4⟩) nh c4 (R.filter (fR lo hi)).length (cY (R.filter (fR lo hi)))) hd
 obtain ⟨h6,e6,k6,g6,_,n6⟩:=aS (n:=116) (k':=mC (sumM (some ⟨b3,0,s3⟩) nl c3 (some ⟨b4,0,s4⟩) nh c4 (R.filter (fR lo hi)).length (cY (R.filter (fR lo hi))))) (Old.get (((o2.trans o3).trans o4).trans o5) g1) (by rw [O5.n0];exact h.ax) rfl ok.1 ok.2.2
 have O6:Old h h6:=Old.bA O5 k6 (Nat.le_refl _)
 have b3':=bsl_bytes h2
 have b4':=bsl_bytes h3
 refine ⟨sumM (some ⟨b3,0,s3⟩) nl c3 (some ⟨b4,0,s4⟩) nh c4 (R.filter (fR lo hi)).length (cY (R.filter (fR lo hi))),h6,aC is18 hG rfl ((t18_eq _ _ _ _ _).trans ?_),O6,⟨rfl,rfl,rfl,rfl,rfl,rfl,hd,?_,?_,nil_rc h6⟩⟩
 ·unfold t18
  have z1':dJ zML h=some (ptr h.next 0,h1):=z1
  have bs':eW zML [(0,1,.int .u8 4),(7,1,.slice (some ⟨b3,0,s3⟩) nl c3),(8,1,.slice (some ⟨b4,0,s4⟩) nh c4),(9,1,ak (R.filter (fR lo hi)).length),(10,32,.agg (aV (cY (R.filter (fR lo hi)))).toArray)]=some (mV (sumM (some ⟨b3,0,s3⟩) nl c3 (some ⟨b4,0,s4⟩) nh c4 (R.filter (fR lo hi)).length (cY (R.filter (fR lo hi))))):=bs
  simp -implicitDefEqProofs only [z1',e2,b3',e3,b4',e4,hll,e5,bs',e6,ad,af]
  refine cW results18 agg42 siz42 (by decide) _ ?_
  exact bh g6 ok.1 ok.2.1
 ·have q1:=o4.next;have q2:=o5.next;have q3:=o2.next
  refine bytes_keep (Old.bytes (o4.trans o5) p3) fun y hy => ?_
  cases hy
  exact k6.get b3 (by omega) (fun q=>by
   have q:b3=h.next:=q
   omega)
 ·have q2:=o5.next;have q3:=o2.next;have q4:=o3.next
  refine bytes_keep (Old.bytes o5 p4) fun y hy => ?_
  cases hy
  exact k6.get b4 (by omega) (fun q=>by
   have q:b4=h.next:=q
   omega)
theorem nq9 (a:ByteArray):bin Tryd.prog .neq 9 (.string a) (.string a)=some (.bool false):=by
 unfold bin eqOk
 simp only [if_true]
 unfold binA
 simp only [ground,flat,Bool.and_self,if_true]
 have e:(binOp .neq 9 (.string a) (.string a))=pure (.bool (!(a.toList==a.toList))):=rfl
 rw [e,beq_self_eq_true]
 rfl
theorem nq31 (k:Nat):bin Tryd.prog .neq 31 (.int .u8 (k:Int)) (.int .u8 (k:Int))=some (.bool false):=by rw [a7];simp
theorem nq3z (n:Int):bin Tryd.prog .neq 3 (.int .i64 n) (.int .i64 n)=some (.bool false):=by rw [a7];simp
theorem nq4 (b:Bool):bin Tryd.prog .neq 4 (.bool b) (.bool b)=some (.bool false):=by cases b<;>kernel_rfl
theorem nqDD {d:List Nat} (w:gz d):bin Tryd.prog .neq 35 (.agg (aV d).toArray) (.agg (aV d).toArray)=some (.bool false):=by rw [nqD35 w w,decide_eq_true rfl];rfl
theorem eq32z:bin Tryd.prog .eql 32 (.int .u64 0) (.int .u64 0)=some (.bool true):=by kernel_rfl
theorem eq26z:bin Tryd.prog .eql 26 (.int .i64 0) (.int .i64 0)=some (.bool true):=by kernel_rfl
structure MLz (h:ab) (b:Nat):Prop where
 l3:ld1 (ptr b 3) h=some (.int .u64 0,h)
 l4:ld1 (ptr b 4) h=some (.int .i64 0,h)
 l5:ld1 (ptr b 5) h=some (.int .i64 0,h)
 l6:ld1 (ptr b 6) h=some (.slice none 0 0,h)
 l44:cT 32 (ptr b 44) h=some (.agg (aV z32).toArray,h)
 l78:ld1 (ptr b 78) h=some (.int .i64 0,h)
 l112:ld1 (ptr b 112) h=some (.slice none 0 0,h)
 l113:ld1 (ptr b 113) h=some (.int .i64 0,h)
 l114:ld1 (ptr b 114) h=some (.slice none 0 0,h)
 l115:ld1 (ptr b 115) h=some (.int .i64 0,h)
theorem m_lz {h:ab} {b:Nat} {m:MsgD} (hr:gz m.root) (g:h.get b=some (mC m)):MLz h b:=by
 have ok:=mC_ok hr
 have d:=aW hr
 refine ⟨aQ g (mC_hd m rfl) rfl,aQ g (mC_hd m rfl) rfl,aQ g (mC_hd m rfl) rfl,aQ g (mC_hd m rfl) rfl,?_,aQ g (mC_tl hr (j:=36) rfl) rfl,aQ g (mC_tl hr (j:=70) rfl) rfl,aQ g (mC_tl hr (j:=71) rfl) rfl,aQ g (mC_tl hr (j:=72) rfl) rfl,aQ g (mC_tl hr (j:=73) rfl) rfl⟩
 have e:((mC m).drop 44).take 32=aV z32:=by
  unfold mC
  rw [show 44=10+(32+2) from rfl,←List.drop_drop,List.drop_left' (by rfl),←List.drop_drop,List.drop_left' d.1]
  rfl
 have:=ldN_at (o:=44) (n:=32) g (by rw [ok.1];decide) (by rw [e];rfl)
 rw [e] at this
 exact this
set_option maxRecDepth 100000 in
set_option maxHeartbeats 2000000 in
theorem r22 {h:ab} (hG:4≤h.n0) {m n:MsgD} {x:AM} (M:MIs h m x) (N:MIs h n x) (hl:x.L.length≤1000000) : ∃ h',CW 22 [mV m,mV n] h=some (.bool true,h')∧Old h h':=by
 have dm:gz m.root:=by rw [M.root];exact M.d32
 have dn:gz n.root:=by rw [N.root];exact N.d32
 have okm:=mC_ok dm
 have okn:=mC_ok dn
 have b1:box (mV m) h=some (ptr h.next 0,h.alloc (mC m)):=fT h _ okm.2.2
 have o1:Old h (h.alloc (mC m)):=Kept.alloc _ _ _
 have g1:(h.alloc (mC m)).get h.next=some (mC m):=by rw [ab.aK,if_pos rfl]
 generalize h.alloc (mC m)=h1 at *
 have b2:box (mV n) h1=some (ptr h1.next 0,h1.alloc (mC n)):=fT h1 _ okn.2.2
 have o2:Old h1 (h1.alloc (mC n)):=Kept.alloc _ _ _
 have g2:(h1.alloc (mC n)).get h1.next=some (mC n):=by rw [ab.aK,if_pos rfl]
 generalize h1.alloc (mC n)=h2 at *
 have O2:=o1.trans o2
 have A:=m_ld dm (Old.get o2 g1)
 have B:=m_ld dn g2
 have Z:=m_lz dm (Old.get o2 g1)
 have a0:=A.l0
 have a1:=A.l1
 have a2:=A.l2
 have a9:=A.l9
 have a10:=A.l10
 have a43:=A.l43
 have c0:=B.l0
 have c1:=B.l1
 have c2:=B.l2
 have c9:=B.l9
 have c10:=B.l10
 have c43:=B.l43
 rw [M.kind] at a0
 rw [M.frm] at a1
 rw [M.to] at a2
 rw [M.cnt] at a9
 rw [M.root] at a10
 rw [M.want] at a43
 rw [N.kind] at c0
 rw [N.frm] at c1
 rw [N.to] at c2
 rw [N.cnt] at c9
 rw [N.root] at c10
 rw [N.want] at c43
 have s1:cvBS m.lo h2=some (.string (strOf x.lo),h2):=fj (Old.bytes O2 M.lo)
 have s2:cvBS m.hi h2=some (.string (strOf x.hi),h2):=fj (Old.bytes O2 M.hi)
 have s3:cvBS n.lo h2=some (.string (strOf x.lo),h2):=fj (Old.bytes O2 N.lo)
 have s4:cvBS n.hi h2=some (.string (strOf x.hi),h2):=fj (Old.bytes O2 N.hi)
 have e19:=r19 (h:=h2) (by rw [O2.n0];exact hG) (M.rs.mono O2).rsl (N.rs.mono O2).rsl hl
 rw [decide_eq_true rfl] at e19
 have ln:cN (.slice none 0 0)=some (ak 0):=rfl
 have eq0:bin Tryd.prog .eql 3 (ak 0) (.int .i64 0)=some (.bool true):=eqII 0
 have bz:eW (List.replicate 32 (.int .u8 0)) []=some (.agg (aV z32).toArray):=rfl
 refine ⟨h2,aC is22 hG rfl ((t22_eq _ _ _ _).trans ?_),O2⟩
 unfold t22
 simp -implicitDefEqProofs only [b1,b2,aB,Nat.zero_add,a0,c0,nq31,bf,ay,Bool.false_eq_true,if_false,a1,c1,nq3z,a2,c2,A.l7,B.l7,s1,s3,nq9,A.l8,B.l8,s2,s4,a9,c9,a10,c10,nqDD M.d32,a43,c43,nq4,A.l42,B.l42,e19,aX,Bool.not_true,
  Z.l3,eq32z,bt,if_true,Z.l4,eqII,Z.l5,Z.l6,ln,eq0,Z.l44,bz,eqDD z32_ok,Nat.reduceAdd,Z.l78,Z.l112,Z.l113,Z.l114,Z.l115,eq26z,ad,af]
end Go.Proofs.YtdnahgfgoajmcaaDoor

namespace Go.Proofs.YtdnahgfgoajmcaaDoor
open Go Go.Abs
open Go.Lib (compareBytes)
attribute [local congr] aq
structure NrmS (R:List ao) (i:Nat) (out:List ao):Prop where
 ks:KS out
 mem : ∀ x,x∈out↔x∈R.take i∧R.any (vdQ x)=false
 val : ∀ x∈R.take i,dK x=true
 len:out.length≤i
theorem eU {R:List ao} {i:Nat} (hi:i<R.length) (x:ao):x∈R.take (i+1)↔x∈R.take i∨x=R[i]:=by
 rw [List.take_succ_eq_append_getElem hi,List.mem_append,List.mem_singleton]
theorem NrmS.void {R out:List ao} {i:Nat} (s:NrmS R i out) (hi:i<R.length) (v:dK R[i]=true) (n:R.any (vdQ R[i])=true):NrmS R (i+1) out:=by
 refine ⟨s.ks,fun x => ?_,fun x hx => ?_,Nat.le_succ_of_le s.len⟩
 ·rw [s.mem,eU hi]
  constructor
  ·rintro ⟨h1,h2⟩
   exact ⟨.inl h1,h2⟩
  ·rintro ⟨h1|rfl,h2⟩
   ·exact ⟨h1,h2⟩
   ·rw [n] at h2;cases h2
 ·rcases (eU hi x).1 hx with h|rfl
  ·exact s.val x h
  ·exact v
theorem NrmS.same {R out:List ao} {i:Nat} (s:NrmS R i out) (hi:i<R.length) (v:dK R[i]=true) (n:R.any (vdQ R[i])=false) (hm:R[i]∈out):NrmS R (i+1) out:=by
 refine ⟨s.ks,fun x => ?_,fun x hx => ?_,Nat.le_succ_of_le s.len⟩
 ·rw [eU hi]
  constructor
  ·intro h
   have:=(s.mem x).1 h
   exact ⟨.inl this.1,this.2⟩
  ·rintro ⟨h1|rfl,h2⟩
   ·exact (s.mem x).2 ⟨h1,h2⟩
   ·exact hm
 ·rcases (eU hi x).1 hx with h|rfl
  ·exact s.val x h
  ·exact v
theorem NrmS.ins {R out:List ao} {i a:Nat} (s:NrmS R i out) (wf : ∀ x∈R,ao.Wf x) (hi:i<R.length) (v:dK R[i]=true) (n:R.any (vdQ R[i])=false) (ha:a≤out.length) (lo : ∀ j,(hj:j<out.length)→j<a→ek out[j] R[i]<0) (hh : ∀ h:a<out.length,¬ek out[a] R[i]<0) (hne : ∀ h:a<out.length,out[a]≠R[i]) :
  NrmS R (i+1) (out.take a ++ [R[i]]++out.drop a):=by
 refine ⟨ks_ins s.ks ha lo hh (fun x hx e => ?_) hne,fun x => ?_,fun x hx => ?_,?_⟩
 ·have h1:=(s.mem x).1 hx
  have h2:=List.mem_of_mem_take h1.1
  exact vd_uniq h2 (List.getElem_mem hi) (wf _ h2) (wf _ (List.getElem_mem hi)) (s.val x h1.1) v h1.2 n e
 ·rw [eU hi,List.append_assoc,List.mem_append,List.mem_append,List.mem_singleton]
  have h1:(x∈out.take a∨x∈out.drop a)↔x∈out:=by
   rw [←List.mem_append,List.take_append_drop]
  constructor
  ·rintro (h|rfl|h)
   ·have:=(s.mem x).1 (h1.1 (.inl h))
    exact ⟨.inl this.1,this.2⟩
   ·exact ⟨.inr rfl,n⟩
   ·have:=(s.mem x).1 (h1.1 (.inr h))
    exact ⟨.inl this.1,this.2⟩
  ·rintro ⟨h|rfl,h2⟩
   ·rcases h1.2 ((s.mem x).2 ⟨h,h2⟩) with q|q
    ·exact .inl q
    ·exact .inr (.inr q)
   ·exact .inr (.inl rfl)
 ·rcases (eU hi x).1 hx with h|rfl
  ·exact s.val x h
  ·exact v
 ·have:=s.len
  rw [List.length_append,List.length_append,List.length_take,List.length_drop,List.length_singleton]
  omega
theorem ins_ok {g:ab} {N:Nat} {w:Value} {out:List ao} {r:ao} {a:Nat} (rl:cE g N w out) (wr:r.Wf) (ha:a≤out.length) (hl:out.length≤100000) :
  ∃ v1 v2 v4 g5 v7 g7 v8 g8,slR 39 w none (some (ak a)) none=some v1∧slR 39 w (some (ak a)) none none=some v2∧aD 39 88 (.slice (some ⟨g.next,0,none⟩) 0 0) v1 (g.alloc [])=some (v4,g5)∧Old g g5 ∧
    aD 39 88 v4 (.slice (some ⟨g5.next,0,none⟩) 1 1) (g5.alloc (recC r))=some (v7,g7)∧aD 39 88 v7 v2 g7=some (v8,g8)∧Old g g8∧cE g8 g.next v8 (out.take a ++ [r]++out.drop a):=by
 obtain ⟨v1,s1,rc1⟩:=rl.takeA ha
 obtain ⟨v2,s2,rc2⟩:=rl.dropA ha
 have n0:=g.ax
 have lt:(out.take a).length=a:=by rw [List.length_take];omega
 have ld:(out.drop a).length=out.length-a:=List.length_drop
 have o4:Old g (g.alloc []):=Kept.alloc _ _ _
 have r4:cE (g.alloc []) g.next (.slice (some ⟨g.next,0,none⟩) 0 0) []:=⟨(fun _ h=>by cases h),g.next,none,rfl,by rw [ab.aK,if_pos rfl];rfl,Nat.le_refl _,.inl ⟨rfl,rfl⟩⟩
 obtain ⟨v4,g5,e5,r5,k5,_⟩:=r4.pushL (rc1.mono o4) (by rw [o4.n0];exact n0) o4.next (by decide) (by omega)
 have o5:Old g g5:=Old.bA o4 k5 (Nat.le_refl _)
 rw [List.nil_append] at r5
 have o6:Old g5 (g5.alloc (recC r)):=Kept.alloc _ _ _
 have g6:(g5.alloc (recC r)).get g5.next=some (recC r):=by rw [ab.aK,if_pos rfl]
 obtain ⟨v7,g7,e7,r7,k7⟩:=(r5.bS o6).push (c:=g5.next) (by rw [(o5.trans o6).n0];exact n0) (o5.trans o6).next wr (by omega) g6
 have o7:Old g g7:=Old.bA (o5.trans o6) k7 r5.cx.1
 obtain ⟨v8,g8,e8,r8,k8,_⟩:=r7.pushL (rc2.mono o7) (by rw [o7.n0];exact n0) o7.next (by rw [List.length_append,List.length_singleton];omega) (by omega)
 exact ⟨v1,v2,v4,g5,v7,g7,v8,g8,s1,s2,e5,o5,e7,e8,Old.bA o7 k8 r7.cx.1,r8⟩
set_option maxRecDepth 100000 in
set_option maxHeartbeats 1000000 in
theorem r52 {h:ab} (hG:4≤h.n0) (hz:GZ h) {v:Value} {R:List ao} (hv:RSl h v R) (hR:R.length≤100000) :
  ∃ w e h',CW 52 [v] h=some (.tuple #[w,.int .i64 e],h')∧Old h h'∧((gI R=true∧e=2)∨(gI R=false∧e=0 ∧ ∃ out,cE h' h.next w out∧NrmS R R.length out)):=by
 have hll:=hv.len
 have wf:=hv.2.1
 have b0:=b0_recs h
 have o1:Old h (h.alloc []):=Kept.alloc _ _ _
 have r0:cE (h.alloc []) h.next (.slice (some ⟨h.next,0,none⟩) 0 0) []:=⟨(fun _ h=>by cases h),h.next,none,rfl,by rw [ab.aK,if_pos rfl];rfl,Nat.le_refl _,.inl ⟨rfl,rfl⟩⟩
 generalize h.alloc []=h1 at *
 generalize Value.slice (some ⟨h.next,0,none⟩) 0 0=w0 at *
 have key : ∃ q:Out,t52 CW v h=q ∧ ∃ w e h',q=some (.tuple #[w,.int .i64 e],h')∧Old h h'∧((gI R=true∧e=2)∨(gI R=false∧e=0 ∧ ∃ out,cE h' h.next w out∧NrmS R R.length out)):=by
  refine ⟨_,rfl,?_⟩
  unfold t52
  simp -implicitDefEqProofs only [b0, ad]
  refine bO (n:=76) (fin:=fun ex y g=>Old h g∧((ex = .exit 0 ∧ ∃ out,cE g h.next (y 4) out∧NrmS R R.length out)∨(ex = .ret∧gI R=true∧y 3 = .int .i64 2)))
   (Q:=fun q:Out => ∃ w e h',q=some (.tuple #[w,.int .i64 e],h')∧Old h h'∧((gI R=true∧e=2)∨(gI R=false∧e=0 ∧ ∃ out,cE h' h.next w out∧NrmS R R.length out)))
   (bP (t52l52_11010_eq CW) (Inv:=fun k y g => ∃ i out,i+k=R.length∧y 0=v∧y 5=ak i∧Old h g∧cE g h.next (y 4) out∧NrmS R i out) ?_ R.length (by have:rounds=18446744073709551616:=rfl;omega) ⟨0,[],by omega,rfl,rfl,o1,r0,.nil,fun x=>by simp,fun x hx=>by simp at hx,Nat.le_refl _⟩) ?_
  ·rintro k y g ⟨i,out,hik,y0,y5,Og,rl,S⟩
   unfold t52l52_11010
   simp -implicitDefEqProofs only [y0,y5,hll,lss3,ad,af]
   by_cases hi:i<R.length
   ·obtain ⟨b,oo,ix,wr,ld⟩:=hv.rd hi
    obtain ⟨g1,e1,q1⟩:=r48 (h:=g) (by rw [Og.n0];exact hG) (hz.bS Og) wr
    have O1:=Og.trans q1
    have a5:bin Tryd.prog .add 3 (ak i) (.int .i64 1)=some (ak (i+1)):=fc (by omega)
    cases hval:dK R[i] with
    |false=>
     rw [hval] at e1
     simp -implicitDefEqProofs only [decide_eq_true hi, ix, ld g Og, e1, aX, Bool.not_false, ad, af]
     refine dU.ret ⟨O1,.inr ⟨rfl,?_,rfl⟩⟩
     unfold gI
     rw [List.any_eq_true]
     exact ⟨R[i],List.getElem_mem hi,by rw [hval];rfl⟩
    |true=>
     rw [hval] at e1
     obtain ⟨g2,e2,q2⟩:=r105 (h:=g1) (by rw [O1.n0];exact hG) (hz.bS O1) wr (hv.mono O1) (by omega)
     have O2:=O1.trans q2
     simp -implicitDefEqProofs only [decide_eq_true hi, ix, ld g Og, e1, aX, Bool.not_true, ld g1 O1, e2, ad, af]
     have rl2:=rl.bS (q1.trans q2)
     cases hn:R.any (vdQ R[i]) with
     |true=>
      simp -implicitDefEqProofs only [a5, ad, af]
      exact dU.next (k-1) (by omega) ⟨i+1,out,by omega,y0,rfl,O2,rl2,S.void hi hval hn⟩
     |false=>
      simp -implicitDefEqProofs only []
      refine bO (nl_in hG O2 hv hi rl2 (by have:=S.len;omega) (by first|rfl|exact y0) rfl (by first|rfl|exact y5) rfl) ?_
      rintro ex z g3 ⟨rfl,q3,z0,z4,z5,a,z6,ha,lo,hh⟩
      have O3:=O2.trans q3
      have z4:z 4=y 4:=z4
      have rl3:=rl2.bS q3
      have hol:=rl3.rcs.rsl.len
      simp -implicitDefEqProofs only [bB,b52_17e,t52k52_16_eq]
      unfold t52k52_16
      simp -implicitDefEqProofs only [z6,z4,hol,lss3,ad,af]
      have hS:=S.len
      obtain ⟨v1,v2,v4,g5,v7,g7,v8,g8,s1,s2,e5,o5,e7,e8,o8,r8⟩:=ins_ok rl3 wr ha (by omega)
      have b0':=b0_recs g3
      have br:=bsl_rec wr g5
      have fin8 : ∀ (x':Nat→Value) (q:ab) (out':List ao),x' 0=v→x' 5=ak i→Old h q→cE q h.next (x' 4) out'→NrmS R (i+1) out' →
        dU 76 (fun k y g => ∃ i out,i+k=R.length∧y 0=v∧y 5=ak i∧Old h g∧cE g h.next (y 4) out∧NrmS R i out) (fun ex y g=>Old h g∧((ex = .exit 0 ∧ ∃ out,cE g h.next (y 4) out∧NrmS R R.length out)∨(ex = .ret∧gI R=true∧y 3 = .int .i64 2))) k (t52k52_8 CW x' q):=by
       intro x' q out' x0 x5 oq rq sq
       unfold t52k52_8
       simp -implicitDefEqProofs only [x5,a5,ad,af]
       exact dU.next (k-1) (by omega) ⟨i+1,out',by omega,x0,rfl,oq,rq,sq⟩
      by_cases hal:a<out.length
      ·obtain ⟨bo,oo',ixo,wo,ldo⟩:=rl3.rcs.rsl.rd hal
       by_cases he:out[a]=R[i]
       ·simp -implicitDefEqProofs only [decide_eq_true hal, bt, ay, ixo, ldo g3 (Kept.refl _ _), z0, z5, ix, ld g3 O3, eq_rec wo wr, decide_eq_true he, if_true, b52_9e, t52k52_8_eq, ad, af]
        refine fin8 _ _ out ?_ ?_ O3 ?_ (S.same hi hval hn (he▸List.getElem_mem hal))
        ·exact z0
        ·exact z5
        ·show cE g3 h.next (z 4) out
         rw [z4]
         exact rl3
       ·simp -implicitDefEqProofs only [decide_eq_true hal, bt, ay, ixo, ldo g3 (Kept.refl _ _), z0, z5, ix, ld g3 O3, eq_rec wo wr, decide_eq_false he, if_true, s1, s2, b0', e5, br, e7, e8, ld g5 (O3.trans o5), chkRec wr, Bool.and_true, t52k52_8_eq, ad, af]
        refine fin8 _ _ _ ?_ ?_ (O3.trans o8) ?_ (S.ins wf hi hval hn ha lo hh fun _=>he)
        ·exact z0
        ·exact z5
        ·exact r8.weak O3.next
      ·simp -implicitDefEqProofs only [decide_eq_false hal, bf', aw, Bool.false_eq_true, if_false, z0, z5, ix, ld g3 O3, s1, s2, b0', e5, br, e7, e8, ld g5 (O3.trans o5), chkRec wr, Bool.and_true, t52k52_8_eq, ad, af]
       refine fin8 _ _ _ ?_ ?_ (O3.trans o8) ?_ (S.ins wf hi hval hn ha lo hh fun h=>absurd h hal)
       ·exact z0
       ·exact z5
       ·exact r8.weak O3.next
   ·have hE:i=R.length:=by omega
    subst hE
    simp -implicitDefEqProofs only [decide_eq_false hi]
    exact dU.out 0 ⟨Og,.inl ⟨rfl,out,rl,S⟩⟩
  ·rintro ex z g ⟨Og,⟨rfl,out,rl,S⟩|⟨rfl,q,z3⟩⟩
   ·simp -implicitDefEqProofs only [bB,b52_4e,t52k52_2_eq]
    unfold t52k52_2
    refine ⟨z 4,0,g,rfl,Og,.inr ⟨?_,rfl,out,rl,S⟩⟩
    unfold gI
    rw [List.any_eq_false]
    intro x hx
    rw [S.val x (by rw [List.take_length];exact hx)]
    decide
   ·rw [endL_ret]
    refine ⟨z 2,2,g,?_,Og,.inl ⟨q,rfl⟩⟩
    rw [res_two results52 (by decide) (by decide),z3]
 obtain ⟨q,e,w,ee,h',e',oo⟩:=key
 exact ⟨w,ee,h',aC is52 hG rfl ((t52_eq _ _ _).trans (e.trans e')),oo⟩
theorem vd_nf {L:List ao} (v:Vld L) (x:ao):(x∈L∧L.any (vdQ x)=false)↔Nf L x:=by
 constructor
 ·rintro ⟨hx,h⟩
  rw [List.any_eq_false] at h
  refine ⟨⟨hx,fun y hy ha => ?_⟩,?_⟩
  ·have h1:=h y hy
   unfold vdQ at h1
   simp only [Bool.or_eq_true,not_or] at h1
   have h1:=h1.1
   rw [←newer_same (v y hy).1 (v x hx).1] at h1
   unfold newerB at h1
   rw [eg] at ha
   simp only [(v y hy).2,(v x hx).2,ha,Bool.true_and,decide_eq_true_eq] at h1
   omega
  ·rintro ⟨hk,⟨y,hy,h1,h2⟩|⟨y,hy,h1,h2,h3⟩⟩
   ·exact h y hy (by unfold vdQ;simp [hk,h1,h2])
   ·exact h y hy (by unfold vdQ;simp [hk,h1,h2,h3])
 ·rintro ⟨⟨hx,ht⟩,hv⟩
  refine ⟨hx,?_⟩
  rw [List.any_eq_false]
  intro y hy hq
  unfold vdQ at hq
  simp only [Bool.or_eq_true,Bool.and_eq_true,decide_eq_true_eq] at hq
  rcases hq with hq|⟨⟨⟨h1,h2⟩,h3⟩,h4⟩|⟨⟨h1,h2⟩,h3⟩
  ·rw [←newer_same (v y hy).1 (v x hx).1] at hq
   unfold newerB at hq
   simp only [Bool.and_eq_true,decide_eq_true_eq] at hq
   have:=ht y hy (by rw [eg];exact hq.2.2.1)
   omega
  ·exact hv ⟨h1,.inr ⟨y,hy,h2,h3,h4⟩⟩
  ·exact hv ⟨h1,.inl ⟨y,hy,h2,h3⟩⟩
theorem nrm_merged {A B out:List ao} (v:Vld (A++B)) (s:NrmS (A++B) (A++B).length out):out=merged A B:=by
 refine s.ks.ext (merged_wf v).2 fun x => ?_
 rw [s.mem,List.take_length,merged_mem v]
 exact vd_nf v x
theorem neq26 (n:Int):bin Tryd.prog .neq 26 (.int .i64 n) (.int .i64 0)=some (.bool (!(decide (n=0)))):=by
 rw [a7]
 congr 2
theorem neq26z:bin Tryd.prog .neq 26 (.int .i64 0) (.int .i64 0)=some (.bool false):=by rw [neq26];rfl
theorem r16 {h:ab} (hG:4≤h.n0) (hz:GZ h) {v w:Value} {A B:List ao} (hv:RcS h v A) (hw:RcS h w B) (vA:Vld A) (hA:A.length≤50000) (hB:B.length≤50000) :
  ∃ x e h',CW 16 [v,w] h=some (.tuple #[x,.int .i64 e],h')∧Old h h'∧((gI B=true∧e=2∧x=v)∨(gI B=false∧e=0∧cE h' h.next x (merged A B))):=by
 have b0:=b0_recs h
 have o1:Old h (h.alloc []):=Kept.alloc _ _ _
 have n0:=h.ax
 have r0:cE (h.alloc []) h.next (.slice (some ⟨h.next,0,none⟩) 0 0) []:=⟨(fun _ h=>by cases h),h.next,none,rfl,by rw [ab.aK,if_pos rfl];rfl,Nat.le_refl _,.inl ⟨rfl,rfl⟩⟩
 obtain ⟨v2,h2,e2,r2,k2,_⟩:=r0.pushL (hv.mono o1) (by rw [o1.n0];exact n0) o1.next (by decide) (by omega)
 have O2:Old h h2:=Old.bA o1 k2 (Nat.le_refl _)
 rw [List.nil_append] at r2
 obtain ⟨v3,h3,e3,r3,k3,_⟩:=r2.pushL (hw.mono O2) (by rw [O2.n0];exact n0) O2.next (by omega) (by omega)
 have O3:Old h h3:=Old.bA O2 k3 r2.cx.1
 obtain ⟨x,e,h4,e4,O4,q⟩:=r52 (h:=h3) (by rw [O3.n0];exact hG) (hz.bS O3) r3.rcs.rsl (by rw [List.length_append];omega)
 have x0:bm (.tuple #[x,.int .i64 e]) 0=some x:=rfl
 have x1:bm (.tuple #[x,.int .i64 e]) 1=some (.int .i64 e):=rfl
 have inv:gI (A++B)=gI B:=by
  unfold gI
  rw [List.any_append,Bool.or_eq_right_iff_imp]
  intro h
  rw [List.any_eq_true] at h
  obtain ⟨r,hr,hq⟩:=h
  rw [(vA r hr).2] at hq
  cases hq
 rw [inv] at q
 rcases q with ⟨q1,rfl⟩|⟨q1,rfl,out,q2,q3⟩
 ·refine ⟨v,2,h4,aC is16 hG rfl ((t16_eq _ _ _ _).trans ?_),O3.trans O4,.inl ⟨q1,rfl,rfl⟩⟩
  unfold t16
  simp -implicitDefEqProofs only [b0,e2,e3,e4,x0,x1,neq26,decide_eq_false (show ¬(2:Int)=0 by decide),Bool.not_false,ad,af]
 ·have vAB:Vld (A++B):=fun r hr=>by
   rcases List.mem_append.1 hr with h1|h1
   ·exact vA r h1
   ·exact ⟨hw.1 r h1,invB_false q1 r h1⟩
  refine ⟨x,0,h4,aC is16 hG rfl ((t16_eq _ _ _ _).trans ?_),O3.trans O4,.inr ⟨q1,rfl,?_⟩⟩
  ·unfold t16
   simp -implicitDefEqProofs only [b0,e2,e3,e4,x0,x1,neq26z,ad,af]
  ·rw [←nrm_merged vAB q3]
   exact q2.weak O3.next
end Go.Proofs.YtdnahgfgoajmcaaDoor

namespace Go.Proofs.YtdnahgfgoajmcaaDoor
open Go Go.Abs
attribute [local congr] aq
end Go.Proofs.YtdnahgfgoajmcaaDoor

namespace Go.Proofs.YtdnahgfgoajmcaaDoor
open Go Go.Abs
attribute [local congr] aq
theorem r25E {h:ab} {vb:Nat} {v:Value} {L R:List ao} (I:IvH h vb L) (x:RSl h v R) (vr:gI R=true) (hL:L.length≤500000) (hR:R.length≤500000):CV 25 [ptr vb 0,v] h=some (.int .i64 2,h):=by
 obtain ⟨va,gv,ra,na⟩:=I.ex
 have ok:MrgOk [ptr vb 0,v] h vb va L v R:=⟨rfl,I.n0,gv,ra.rsl,x,I.vld,hL,hR⟩
 have e:=s25_eq ok
 rw [if_pos vr] at e
 exact CC2_known e
end Go.Proofs.YtdnahgfgoajmcaaDoor

namespace Go.Proofs.YtdnahgfgoajmcaaDoor
open Go Go.Abs
open Go.Lib (compareBytes)
attribute [local congr] aq
theorem is3:cd Tryd.prog 3 Tryd.f3:=⟨by kernel_rfl,by kernel_rfl,by kernel_rfl,by kernel_rfl⟩
theorem cut_below {L:List ao} (ks:KS L) (p:ao→Bool) (mono : ∀ a b,ek a b<0→p b=true→p a=true):L.filter p++L.filter (fun r => !(p r))=L:=by
 induction L with
 |nil=>rfl
 |cons a L ih=>
  unfold KS at ks
  rw [List.pairwise_cons] at ks
  have ih:=ih ks.2
  cases ha:p a with
  |true=>
   rw [List.filter_cons_of_pos ha,List.filter_cons_of_neg (by rw [ha];decide),List.cons_append,ih]
  |false=>
   have hn : ∀ b∈L,p b=false:=fun b hb=>by
    cases hb':p b with
    |false=>rfl
    |true=>rw [mono a b (ks.1 b hb) hb'] at ha;cases ha
   have e1:L.filter p = []:=List.filter_eq_nil_iff.2 fun b hb=>by rw [hn b hb];decide
   have e2:L.filter (fun r => !(p r))=L:=List.filter_eq_self.2 fun b hb=>by rw [hn b hb];rfl
   rw [List.filter_cons_of_neg (by rw [ha];decide),List.filter_cons_of_pos (by rw [ha];rfl),e1,e2,List.nil_append]
theorem ranges_law {S:List ao} (ks:KS S) {lo hi:List Nat} (h1:lo ≠ []) (h2:hi ≠ []) (hle:compareBytes (lo.map UInt8.ofNat) (hi.map UInt8.ofNat)≤0):S.filter (fR [] lo)++(S.filter (fR lo hi)++S.filter (fR hi []))=S:=by
 have n0 : ∀ r:ao,0≤fM r []:=fun r=>by
  unfold fM
  have:keyU r=UInt8.ofNat r.kind::((r.obj ++ [i8 r.aH]).map UInt8.ofNat):=rfl
  rw [this]
  exact (show (0:Int)≤1 by decide)
 have e1:S.filter (fR [] lo)=S.filter (fun r=>decide (fM r lo<0)):=by
  congr 1
  funext r
  unfold fR
  rw [decide_eq_true (n0 r),decide_eq_false h1,Bool.false_or,Bool.true_and]
 have mono : ∀ l:List Nat,∀ a b,ek a b<0→decide (fM b l<0)=true→decide (fM a l<0)=true:=fun l a b h hb=>by
  rw [decide_eq_true_eq] at *
  exact cb_trans _ _ _ h hb
 have c1:=cut_below ks (fun r=>decide (fM r lo<0)) (mono lo)
 have ks2:KS (S.filter (fun r => !(decide (fM r lo<0)))):=List.Pairwise.filter _ ks
 have c2:=cut_below ks2 (fun r=>decide (fM r hi<0)) (mono hi)
 rw [List.filter_filter,List.filter_filter] at c2
 have e2:S.filter (fR lo hi)=S.filter (fun r=>decide (fM r hi<0) && !(decide (fM r lo<0))):=by
  congr 1
  funext r
  unfold fR
  rw [decide_eq_false h2,Bool.false_or,Bool.and_comm]
  congr 1
  by_cases h:fM r lo<0
  ·rw [decide_eq_true h,decide_eq_false (by omega)];rfl
  ·rw [decide_eq_false h,decide_eq_true (by omega)];rfl
 have e3:S.filter (fR hi [])=S.filter (fun r => !(decide (fM r hi<0)) && !(decide (fM r lo<0))):=by
  congr 1
  funext r
  unfold fR
  rw [decide_eq_true (rfl:([]:List Nat) = []),Bool.true_or,Bool.and_true]
  by_cases h:fM r hi<0
  ·rw [decide_eq_true h,decide_eq_false (by omega)];rfl
  ·rw [decide_eq_false h,decide_eq_true (by omega)]
   have : ¬fM r lo<0:=fun q=>by
    rcases Int.lt_or_eq_of_le hle with h3|h3
    ·exact h (cb_trans _ _ _ q h3)
    ·have h4:=cb_eq _ _ h3
     unfold fM at q h
     rw [h4] at q
     exact h q
   rw [decide_eq_false this]
   rfl
 rw [e1,e2,e3,c2]
 exact c1
theorem leq_by (a b:List Nat):bin Tryd.prog .leq 9 (.string (strOf a)) (.string (strOf b))=some (.bool (decide (compareBytes (a.map UInt8.ofNat) (b.map UInt8.ofNat)≤0))):=by
 have hl : ∀ l:List Nat,(strOf l).toList=l.map UInt8.ofNat:=fun l=>Go.ByteArray.toList_mk _
 have e:bin Tryd.prog .leq 9 (.string (strOf a)) (.string (strOf b))=some (.bool (Op.bytesLess (strOf a).toList (strOf b).toList||(strOf a).toList==(strOf b).toList)):=by
  unfold bin eqOk
  simp only [if_true]
  unfold binA
  simp only [ground,flat,Bool.and_self,if_true]
  have e:(binOp .leq 9 (.string (strOf a)) (.string (strOf b)))=pure (.bool (Op.bytesLess (strOf a).toList (strOf b).toList||(strOf a).toList==(strOf b).toList)):=rfl
  rw [e]
  rfl
 rw [e,less_cb,hl,hl]
 congr 2
 by_cases h:compareBytes (a.map UInt8.ofNat) (b.map UInt8.ofNat)<0
 ·rw [decide_eq_true h,decide_eq_true (by omega)];rfl
 ·rw [decide_eq_false h,Bool.false_or]
  by_cases h2:compareBytes (a.map UInt8.ofNat) (b.map UInt8.ofNat)=0
  ·rw [cb_eq _ _ h2,decide_eq_true (by rw [cb_self];omega),beq_self_eq_true]
  ·rw [decide_eq_false (by omega),beq_eq_false_iff_ne]
   exact fun q=>h2 (by rw [q,cb_self])
theorem GLst.pushL {h:ab} {N:Nat} {v w:Value} {L P:List ao} (x:GLst 39 h N v L.length (ba L)) (hw : ∀ r∈L,ao.Wf r) (y:RcS h w P) (h0:h.n0≤N) (hN:N≤h.next) (hl:L.length≤1000000) (hp:P.length≤1000000) :
  ∃ v' h',aD 39 88 v w h=some (v',h')∧GLst 39 h' N v' (L++P).length (ba (L++P))∧Kept h h' (fun b=>N≤b):=by
 have conv : ∀ {g:ab} {u:Value} {Q:List ao},cE g N u Q→GLst 39 g N u Q.length (ba Q):=fun {g u Q} r=>by
  obtain ⟨hq,b,s,rfl,g1,g2,g3⟩:=r
  have ok:=hI hq
  refine ⟨cG hq,ok.1,ok.2,.inr ⟨b,s,rfl,g1,g2,?_⟩⟩
  rcases g3 with ⟨q,rfl⟩|⟨q,rfl⟩
  ·exact .inl ⟨by rw [q];rfl,rfl⟩
  ·exact .inr ⟨List.length_pos_iff.2 q,rfl⟩
 rcases x.form with ⟨hn,rfl⟩|⟨b,s,rfl,g1,g2,g3⟩
 ·obtain rfl:L = []:=List.length_eq_zero_iff.1 hn
  obtain ⟨hd,a,c,rfl,hna,ht,hy⟩:=y
  by_cases hz:P.length=0
  ·obtain rfl:P = []:=List.length_eq_zero_iff.1 hz
   refine ⟨.slice none 0 0,h,?_,GLst.nil 39 h N,Kept.refl _ _⟩
   have hf:bc 39 0 (.slice a 0 c) h=some []:=by
    unfold bc
    cases a with
    |none=>rfl
    |some a=>obtain ⟨b',off,s'⟩:=a;rfl
   unfold aD
   simp only [List.length_nil,lenA,hf]
   rw [if_neg (by simp [aJ]),if_pos (by omega),if_pos trivial]
  ·obtain ⟨b',off,s',k,rfl,hk,hlen,hcs⟩:=hy (by omega)
   rw [show recK.length=39 from rfl] at hlen hcs
   have cr:=hI hd
   have lp:=cG hd
   have hf:bc 39 P.length (.slice (some ⟨b',off,s'⟩) P.length c) h=some (ba P):=by
    unfold bc
    simp only
    rw [if_neg (by omega),hk]
    simp only
    rw [hcs,if_pos ⟨hlen,cr.1⟩]
   have hcond:(!(aJ (ba P)) || !(decide ((0+P.length)*88≤140737488355328)) || !(decide (0+P.length≤4611686018427387904))||decide ((ba P).length≠P.length*39))=false:=by
    rw [cr.2,decide_eq_true (by omega:(0+P.length)*88≤140737488355328),decide_eq_true (by omega:0+P.length≤4611686018427387904),decide_eq_false (by rw [lp];simp)]
    rfl
   refine ⟨.slice (some ⟨h.next,0,some 39⟩) (0+P.length) (0+P.length),h.alloc (ba P),?_,?_,Kept.alloc _ _ _⟩
   ·unfold aD
    simp only [lenA,hf]
    rw [if_neg (by rw [hcond];decide),if_neg (by omega),if_pos trivial]
   ·rw [List.nil_append,Nat.zero_add]
    exact conv ⟨hd,h.next,some 39,rfl,by rw [ab.aK,if_pos rfl],hN,.inr ⟨fun q=>hz (by rw [q];rfl),rfl⟩⟩
 ·have r:cE h N (.slice (some ⟨b,0,s⟩) L.length L.length) L:=by
   refine ⟨hw,b,s,rfl,g1,g2,?_⟩
   rcases g3 with ⟨q,rfl⟩|⟨q,rfl⟩
   ·exact .inl ⟨List.length_eq_zero_iff.1 q,rfl⟩
   ·exact .inr ⟨List.length_pos_iff.1 q,rfl⟩
  obtain ⟨v',h',e,r',k,_⟩:=r.pushL y h0 hN hl hp
  exact ⟨v',h',e,conv r',k.mono fun c _ q=>by
   have q:c=b:=q
   omega⟩
theorem r15E {h:ab} (hG:4≤h.n0) {v:Value} {L:List ao} (x:RcS h v L) (vr:gI L=true) (hl:L.length≤500000) :
  ∃ vb h',CV 15 [v] h=some (.tuple #[ptr vb 0,.int .i64 2],h')∧IvH h' vb []∧Old h h'∧h.next≤vb:=by
 have e1:=CV_up (f:=33) rfl (by decide) (r33 hG)
 have o1:Old h (h.alloc [.slice none 0 0]):=Kept.alloc _ _ _
 have i1:IvH (h.alloc [.slice none 0 0]) h.next []:=⟨h.ax,⟨.slice none 0 0,by rw [ab.aK,if_pos rfl],nil_rc _,.inl rfl⟩,(fun _ h=>by cases h),.nil⟩
 generalize h.alloc [.slice none 0 0]=h1 at *
 obtain ⟨v2,h2,e2,o2,r2⟩:=r26L (h:=h1) (by rw [o1.n0];exact hG) (x.mono o1) (by omega)
 have e2:=CV_up (f:=26) rfl (by decide) e2
 have e3:=r25E (i1.bS o2) r2.rcs.rsl vr (by decide) hl
 refine ⟨h.next,h2,CV_body is15 hG rfl (by decide) ((t15_eq _ _ _).trans ?_),i1.bS o2,o1.trans o2,Nat.le_refl _⟩
 unfold t15
 simp -implicitDefEqProofs only [e1,nil25,e2,e3,ad,af]
set_option maxRecDepth 100000 in
set_option maxHeartbeats 2000000 in
theorem r3 {h:ab} (hG:4≤h.n0) (hz:h.get 3=some bZ) (hr:GR h) (hg0:GZ h) {v:Value} {L:List ao} (hv:RcS h v L) {al ah:Option Addr} {nl cl nh ch:Nat} {lo hi:List Nat} (hlo:au al nl h=some lo) (hhi:au ah nh h=some hi) : ∃ h',CV 3 [v,.slice al nl cl,.slice ah nh ch] h=some (.bool true,h'):=by
 have hll:=hv.rsl.len
 have e14 : ∀ g,Old h g→CV 14 [] g=some (.bool true,g):=fun g og=>r14V (Old.get og hz)
 have ln : ∀ (a:Option Addr) (n c:Nat),cN (.slice a n c)=some (ak n):=fun _ _ _=>rfl
 have N : ∀ g,Old h g→4≤g.n0:=fun g og=>by rw [og.n0];exact hG
 have key : ∃ out:Out,t3 CV v (.slice al nl cl) (.slice ah nh ch) h=out ∧ ∃ h',out=some (.bool true,h'):=by
  refine ⟨_,rfl,?_⟩
  unfold t3
  simp -implicitDefEqProofs only [hll,gtrC L.length 100 100 rfl,ad,af]
  by_cases c0:100<L.length
  ·simp -implicitDefEqProofs only [decide_eq_true c0, bt', aw, if_true, e14 h (Kept.refl _ _), ad]
   exact ⟨h,rfl⟩
  ·by_cases c1:100<nl
   ·simp -implicitDefEqProofs only [decide_eq_false c0,bf,bt',ay,aw,Bool.false_eq_true,if_false,if_true,ln,gtrC nl 100 100 rfl,decide_eq_true c1,e14 h (Kept.refl _ _),ad,af]
    exact ⟨h,rfl⟩
   ·by_cases c2:100<nh
    ·simp -implicitDefEqProofs only [decide_eq_false c0,bf,ay,Bool.false_eq_true,if_false,ln,gtrC nl 100 100 rfl,decide_eq_false c1,gtrC nh 100 100 rfl,decide_eq_true c2,e14 h (Kept.refl _ _),ad,af]
     exact ⟨h,rfl⟩
    ·
     have both : ∃ e S vb h3 w h4,CV 15 [v] h=some (.tuple #[ptr vb 0,.int .i64 e],h3)∧CV 16 [.slice none 0 0,v] h3=some (.tuple #[w,.int .i64 e],h4)∧IvH h4 vb S∧RcS h4 w S∧Old h h3∧Old h h4∧S.length≤100:=by
      cases hi':gI L with
      |true=>
       obtain ⟨vb,h3,e3,I3,o3,_⟩:=r15E hG hv hi' (by omega)
       obtain ⟨w,e,h4,e4,o4,q⟩:=r16 (h:=h3) (N h3 o3) (hg0.bS o3) (nil_rc h3) (hv.mono o3) (fun _ h=>by cases h) (by decide) (by omega)
       have e4:=CV_up (f:=16) rfl (by decide) e4
       rcases q with ⟨_,rfl,rfl⟩|⟨q,_⟩
       ·exact ⟨2,[],vb,h3,_,h4,e3,e4,I3.bS o4,nil_rc h4,o3,o3.trans o4,Nat.zero_le _⟩
       ·rw [hi'] at q;cases q
      |false=>
       obtain ⟨vb,h3,e3,I3,o3,_⟩:=r15 hG hv (invB_false hi') (by omega)
       obtain ⟨w,e,h4,e4,o4,q⟩:=r16 (h:=h3) (N h3 o3) (hg0.bS o3) (nil_rc h3) (hv.mono o3) (fun _ h=>by cases h) (by decide) (by omega)
       have e4:=CV_up (f:=16) rfl (by decide) e4
       have ml:=merged_len [] L
       rw [List.length_nil] at ml
       rcases q with ⟨q,_⟩|⟨_,rfl,q⟩
       ·rw [hi'] at q;cases q
       ·exact ⟨0,_,vb,h3,w,h4,e3,e4,I3.bS o4,q.rcs,o3,o3.trans o4,by omega⟩
     obtain ⟨e,S,vb,h3,w,h4,e3,e4,I4,W4,O3,O4,hS⟩:=both
     have x0:bm (.tuple #[ptr vb 0,.int .i64 e]) 0=some (ptr vb 0):=rfl
     have x1:bm (.tuple #[ptr vb 0,.int .i64 e]) 1=some (.int .i64 e):=rfl
     have y0:bm (.tuple #[w,.int .i64 e]) 0=some w:=rfl
     have y1:bm (.tuple #[w,.int .i64 e]) 1=some (.int .i64 e):=rfl
     obtain ⟨va,gv,rv,nv⟩:=I4.ex
     have ks:=I4.ks
     have vl:=I4.vld
     obtain ⟨b5,s5,c5,h5,e5,p5,o5⟩:=copyB (c:=cl) (Old.bytes O4 hlo) (by omega)
     have O5:=O4.trans o5
     obtain ⟨b6,s6,c6,h6,e6,p6,o6⟩:=copyB (c:=ch) (Old.bytes O5 hhi) (by omega)
     have O6:=O5.trans o6
     have o46:=o5.trans o6
     have b5':=bsl_bytes h4
     have b6':=bsl_bytes h5
     obtain ⟨m,h7,e7,o7,M7,_⟩:=r17M (h:=h6) (cl:=c5) (ch:=c6) (N h6 O6) (Old.get O6 hz) (Old.get o46 gv) (rv.mono o46) nv ks vl (by omega) (Old.bytes o6 p5) p6 (by omega) (by omega)
     have e7:=CV_up (f:=17) rfl (by decide) e7
     have O7:=O6.trans o7
     have o47:=o46.trans o7
     obtain ⟨n,h8,e8,o8,N8⟩:=r18M (h:=h7) (cl:=cl) (ch:=ch) (N h7 O7) (hr.bS O7) (hg0.bS O7) (W4.mono o47).rsl (fun r hr=>(vl r hr).2) (by omega) (Old.bytes O7 hlo) (Old.bytes O7 hhi) (by omega) (by omega)
     have e8:=CV_up (f:=18) rfl (by decide) e8
     have O8:=O7.trans o8
     have o48:=o47.trans o8
     have M8:=M7.bS o8
     have dm:gz m.root:=by rw [M8.root];exact M8.d32
     have dn:gz n.root:=by rw [N8.root];exact N8.d32
     have okm:=mC_ok dm
     have okn:=mC_ok dn
     obtain ⟨h9,z9,o9,g9,n9⟩:=fresh zML h8
     obtain ⟨h10,z10,o10,g10,n10⟩:=fresh zML h9
     have nh8:=h8.ax
     obtain ⟨h11,e11,k11,g11,_,n11⟩:=aS (n:=116) (k':=mC m) (Old.get o10 g9) (by rw [(o9.trans o10).n0];exact nh8) rfl okm.1 okm.2.2
     obtain ⟨h12,e12,k12,g12,_,n12⟩:=aS (n:=116) (k':=mC n) (k11.dX g10 (fun q=>by have q:h9.next=h8.next:=q;omega)) (by rw [k11.n0,(o9.trans o10).n0];omega) rfl okn.1 okn.2.2
     have o811:Old h8 h11:=Old.bA (o9.trans o10) k11 (Nat.le_refl _)
     have o812:Old h8 h12:=Old.bA o811 k12 (by omega)
     have g11':=k12.dX g11 (fun q=>by have q:h8.next=h9.next:=q;omega)
     have O12:=O8.trans o812
     have o412:=o48.trans o812
     have p5':=Old.bytes ((o6.trans o7).trans (o8.trans o812)) p5
     have p6':=Old.bytes (o7.trans (o8.trans o812)) p6
     obtain ⟨w13,h13,e13,o13,r13,f13⟩:=r20L (h:=h12) (cl:=c5) (ch:=c6) (N h12 O12) (Old.get o412 gv) (rv.mono o412) nv ks (by omega) p5' p6'
     have e13:=CV_up (f:=20) rfl (by decide) e13
     have O13:=O12.trans o13
     obtain ⟨w14,h14,e14',o14,r14⟩:=r21 (h:=h13) (cl:=cl) (ch:=ch) (N h13 O13) (W4.mono (o412.trans o13)).rsl (by omega) (Old.bytes O13 hlo) (Old.bytes O13 hhi)
     have e14':=CV_up (f:=21) rfl (by decide) e14'
     have O14:=O13.trans o14
     have hfl:=List.length_filter_le (fR lo hi) S
     have e15:=CV_up (f:=19) rfl (by decide) (r19 (h:=h14) (N h14 O14) ((r13.bS o14).rc f13).rsl r14.rcs.rsl (by omega))
     rw [decide_eq_true rfl] at e15
     have l13:cT 116 (ptr h8.next 0) h14=some (mV m,h14):=bh (Old.get (o13.trans o14) g11') okm.1 okm.2.1
     have l14:cT 116 (ptr h9.next 0) h14=some (mV n,h14):=bh (Old.get (o13.trans o14) g12) okn.1 okn.2.1
     have o814:=(o812.trans o13).trans o14
     obtain ⟨h15,e16,o15⟩:=r22 (h:=h14) (N h14 O14) (M8.bS o814) (N8.bS o814) (Nat.zero_le _)
     have e16:=CV_up (f:=22) rfl (by decide) e16
     have O15:=O14.trans o15
     have o1215:=(o13.trans o14).trans o15
     have q5:=Old.bytes o1215 p5'
     have q6:=Old.bytes o1215 p6'
     have d5:=fj (c:=c5) q5
     have d6:=fj (c:=c6) q6
     have dl:=fj (c:=cl) (Old.bytes O15 hlo)
     have dh:=fj (c:=ch) (Old.bytes O15 hhi)
     have z9':dJ zML h8=some (ptr h8.next 0,h9):=z9
     have z10':dJ zML h9=some (ptr h9.next 0,h10):=z10
     simp -implicitDefEqProofs only [decide_eq_false c0, bf, ay, Bool.false_eq_true, if_false, ln, gtrC nl 100 100 rfl, decide_eq_false c1, gtrC nh 100 100 rfl, decide_eq_false c2, e3, x0, x1, e4, y0, y1, nqE, b5', e5, b6', e6, e7, e8, z9', z10', e11, e12, e13, e14', e15, aX, Bool.not_true, l13, l14, e16, d5, dl, nq9, d6, dh, gtrC nl 0 0 rfl, ad, af]
     by_cases q1:0<nl
     ·by_cases q2:0<nh
      ·by_cases q3:compareBytes (lo.map UInt8.ofNat) (hi.map UInt8.ofNat)≤0
       ·have hne1:lo ≠ []:=fun q=>by
         have:=(aE hlo).1
         rw [q] at this
         rw [List.length_nil] at this
         omega
        have hne2:hi ≠ []:=fun q=>by
         have:=(aE hhi).1
         rw [q] at this
         rw [List.length_nil] at this
         omega
        have law:=ranges_law ks hne1 hne2 q3
        have o415:=(o412.trans o1215)
        obtain ⟨w16,h16,e17,o16,r16,f16⟩:=r20L (h:=h15) (al:=none) (nl:=0) (cl:=0) (ch:=c5) (lo := []) (N h15 O15) (Old.get o415 gv) (rv.mono o415) nv ks (by omega) rfl q5
        have e17:=CV_up (f:=20) rfl (by decide) e17
        have O16:=O15.trans o16
        obtain ⟨w17,h17,e18,o17,r17,f17⟩:=r20L (h:=h16) (cl:=c5) (ch:=c6) (N h16 O16) (Old.get (o415.trans o16) gv) (rv.mono (o415.trans o16)) nv ks (by omega) (Old.bytes o16 q5) (Old.bytes o16 q6)
        have e18:=CV_up (f:=20) rfl (by decide) e18
        have O17:=O16.trans o17
        obtain ⟨w18,h18,e19,o18,r18,f18⟩:=r20L (h:=h17) (cl:=c6) (ah:=none) (nh:=0) (ch:=0) (hi := []) (N h17 O17) (Old.get ((o415.trans o16).trans o17) gv) (rv.mono ((o415.trans o16).trans o17)) nv ks (by omega) (Old.bytes (o16.trans o17) q6) rfl
        have e19:=CV_up (f:=20) rfl (by decide) e19
        have O18:=O17.trans o18
        have h1:=List.length_filter_le (fR [] lo) S
        have h3:=List.length_filter_le (fR hi []) S
        have nn:=h.ax
        obtain ⟨w19,h19,e20,r19',k19⟩:=(r17.bS o18).pushL f17 (r18.rc f18) (by rw [O18.n0];have:=O16.next;omega) (by have:=o17.next;have:=o18.next;omega) (by omega) (by omega)
        have O19:Old h16 h19:=(o17.trans o18).also k19 (fun d hd q=>by omega)
        have f19 : ∀ r∈S.filter (fR lo hi)++S.filter (fR hi []),ao.Wf r:=fun r hr=>by
         rcases List.mem_append.1 hr with q|q
         ·exact f17 r q
         ·exact f18 r q
        have h2:(S.filter (fR lo hi)++S.filter (fR hi [])).length≤1000000:=by rw [List.length_append];omega
        obtain ⟨w20,h20,e21,r20',k20⟩:=(r16.bS O19).pushL f16 (r19'.rc f19) (by rw [O19.n0,O16.n0];have:=O15.next;omega) (by have:=o16.next;have:=O19.next;omega) (by omega) h2
        have O20:Old h15 h20:=(o16.trans O19).also k20 (fun d hd q=>by omega)
        rw [law] at r20'
        have OF:=O15.trans O20
        obtain ⟨w21,h21,e22,o21,r21'⟩:=r23 (h:=h20) (N h20 OF) (Old.get (o415.trans O20) gv) (rv.mono (o415.trans O20)) nv (by omega)
        have e22:=CV_up (f:=23) rfl (by decide) e22
        have e23:=CV_up (f:=19) rfl (by decide) (r19 (h:=h21) (N h21 (OF.trans o21)) ((r20'.bS o21).rc (fun r hr=>(vl r hr).1)).rsl r21' (by omega))
        rw [decide_eq_true rfl] at e23
        have lq:=leq_by lo hi
        rw [decide_eq_true q3] at lq
        simp -implicitDefEqProofs only [decide_eq_true q1,bt,ay,ln,gtrC nh 0 0 rfl,decide_eq_true q2,if_true,dl,dh,lq,e17,e18,e19,e20,e21,e22,e23,aX,Bool.not_true,e14 h21 (OF.trans o21),ad,af]
        exact ⟨h21,rfl⟩
       ·have lq:=leq_by lo hi
        rw [decide_eq_false q3] at lq
        simp -implicitDefEqProofs only [decide_eq_true q1,bt,ay,ln,gtrC nh 0 0 rfl,decide_eq_true q2,if_true,dl,dh,lq,e14 h15 O15,ad,af]
        exact ⟨h15,rfl⟩
      ·simp -implicitDefEqProofs only [decide_eq_true q1,bt,bf',ay,aw,ln,gtrC nh 0 0 rfl,decide_eq_false q2,if_true,Bool.false_eq_true,if_false,e14 h15 O15,ad,af]
       exact ⟨h15,rfl⟩
     ·simp -implicitDefEqProofs only [decide_eq_false q1, bf', aw, Bool.false_eq_true, if_false, e14 h15 O15, ad]
      exact ⟨h15,rfl⟩
 obtain ⟨q,e,h',e'⟩:=key
 exact ⟨h',CV_body is3 hG (by decide) (by decide) ((t3_eq _ _ _ _ _).trans (e.trans e'))⟩
end Go.Proofs.YtdnahgfgoajmcaaDoor

