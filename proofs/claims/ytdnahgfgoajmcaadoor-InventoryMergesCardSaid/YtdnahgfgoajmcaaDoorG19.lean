/-
  A part of the proof, spaces and names shortened by a program (a claim may hold 1,500,000 bytes).
  Conditions: as each theorem states.
-/
import Derived.Test.YtdnahgfgoajmcaaDoorG18
namespace Go.Proofs.YtdnahgfgoajmcaaDoor
open Go Go.Abs
open Go.Lib (compareBytes)
attribute [local congr] thenV_congr
theorem is111:IsFn Tryd.prog 111 Tryd.f111:=⟨by kernel_rfl,by kernel_rfl,by kernel_rfl,by kernel_rfl⟩
theorem is112:IsFn Tryd.prog 112 Tryd.f112:=⟨by kernel_rfl,by kernel_rfl,by kernel_rfl,by kernel_rfl⟩
theorem is56:IsFn Tryd.prog 56 Tryd.f56:=⟨by kernel_rfl,by kernel_rfl,by kernel_rfl,by kernel_rfl⟩
theorem is73:IsFn Tryd.prog 73 Tryd.f73:=⟨by kernel_rfl,by kernel_rfl,by kernel_rfl,by kernel_rfl⟩
theorem b111_3e (C:CallF) (e:Env) (h:Heap):b111_3 C 0 e h=k111_2 C e h:=rfl
theorem shr111 (i:Nat):bin Tryd.prog .shr 111 (.int .u64 (i:Int)) (.int .u64 1)=some (.int .u64 ((i/2:Nat):Int)):=bin_shr_nat Tryd.prog 111 (k := .u64) (k' := .u64) (b:=1) (by decide)
theorem add33 {i j:Nat} (h:i+j≤10000000):bin Tryd.prog .add 3 (i64n i) (i64n j)=some (i64n (i+j)):=by
 unfold i64n
 rw [bin_add,wrap_i64 (by omega) (by omega)]
 congr 2
theorem cvU {i:Nat} (h:i≤10000000) (g:Heap):cvI .u64 (i64n i) g=some (.int .u64 (i:Int),g):=by
 unfold i64n
 rw [cvI_int]
 congr 3
 show ((i:Int)%18446744073709551616)=_
 omega
theorem cvN {i:Nat} (h:i≤10000000) (g:Heap):cvI .i64 (.int .u64 (i:Int)) g=some (i64n i,g):=by
 unfold i64n
 rw [cvI_int,wrap_i64 (by omega) (by omega)]
set_option maxRecDepth 100000 in
theorem r111 {h:Heap} (hG:4≤h.n0) {fv:Value} {n:Nat} (hn:n≤1000000) (p:Nat→Bool) (hp : ∀ i,i<n → ∀ g,Old h g → ∃ g',callA Tryd.prog CW fv [i64n i] g=some (.bool (p i),g')∧Old g g') (mono : ∀ i j,i≤j→j<n→p i=true→p j=true) :
  ∃ k h',CW 111 [i64n n,fv] h=some (i64n k,h')∧Old h h'∧k≤n∧(∀ i,i<k→p i=false) ∧ ∀ i,k≤i→i<n→p i=true:=by
 have key : ∃ q:Out,t111 CW (i64n n) fv h=q ∧ ∃ k h',q=some (i64n k,h')∧Old h h'∧k≤n∧(∀ i,i<k→p i=false) ∧ ∀ i,k≤i→i<n→p i=true:=by
  refine ⟨_,rfl,?_⟩
  unfold t111
  simp -implicitDefEqProofs only [thenV_some]
  refine endL_fin (n:=26) (fin:=fun ex y g=>ex = .exit 0∧Old h g ∧ ∃ k,y 5=i64n k∧k≤n∧(∀ i,i<k→p i=false) ∧ ∀ i,k≤i→i<n→p i=true)
   (Q:=fun q:Out => ∃ k h',q=some (i64n k,h')∧Old h h'∧k≤n∧(∀ i,i<k→p i=false) ∧ ∀ i,k≤i→i<n→p i=true)
   (loop_fin (t111l111_1100_eq CW) (Inv:=fun k y g => ∃ i j,i+k=j∧j≤n∧y 1=fv∧y 5=i64n i∧y 6=i64n j∧Old h g∧(∀ a,a<i→p a=false) ∧ ∀ a,j≤a→a<n→p a=true) ?_ n (by have:rounds=18446744073709551616:=rfl;omega) ⟨0,n,by omega,Nat.le_refl _,rfl,rfl,rfl,Kept.refl _ _,fun a h=>absurd h (Nat.not_lt_zero a),fun a h1 h2=>by omega⟩) ?_
  ·rintro k y g ⟨i,j,hij,hjn,y1,y5,y6,Og,lo,hi⟩
   unfold t111l111_1100
   simp -implicitDefEqProofs only [y5,y6,lss3,thenV_some,pu_some]
   by_cases h1:i<j
   ·have hm1:i≤(i+j)/2:=by omega
    have hm2:(i+j)/2<j:=by omega
    obtain ⟨g',e,o⟩:=hp ((i+j)/2) (by omega) g Og
    simp -implicitDefEqProofs only [decide_eq_true h1,add33 (show i+j≤10000000 by omega),cvU (show i+j≤10000000 by omega),shr111,cvN (show (i+j)/2≤10000000 by omega),y1,e,unA_not,thenV_some,pu_some]
    cases hpm:p ((i+j)/2) with
    |true=>
     simp -implicitDefEqProofs only [Bool.not_true]
     exact Rnd.next ((i+j)/2-i) (by omega) ⟨i,(i+j)/2,by omega,by omega,y1,y5,rfl,Og.trans o,lo,fun a h2 h3=>mono _ _ h2 h3 hpm⟩
    |false=>
     have a5:bin Tryd.prog .add 3 (i64n ((i+j)/2)) (.int .i64 1)=some (i64n ((i+j)/2+1)):=add31 (by omega)
     simp -implicitDefEqProofs only [Bool.not_false,a5,thenV_some,pu_some]
     refine Rnd.next (j-((i+j)/2+1)) (by omega) ⟨(i+j)/2+1,j,by omega,hjn,y1,rfl,y6,Og.trans o,fun a ha => ?_,hi⟩
     cases hpa:p a with
     |false=>rfl
     |true=>
      have:=mono a ((i+j)/2) (by omega) (by omega) hpa
      rw [hpm] at this
      cases this
   ·simp -implicitDefEqProofs only [decide_eq_false h1]
    refine Rnd.out 0 ⟨rfl,Og,i,y5,by omega,lo,fun a h2 h3=>hi a (by omega) h3⟩
  ·rintro ex z g ⟨rfl,Og,k,z5,q1,q2,q3⟩
   simp -implicitDefEqProofs only [endL_exit,b111_3e,t111k111_2_eq]
   unfold t111k111_2
   rw [z5]
   exact ⟨k,g,rfl,Og,q1,q2,q3⟩
 obtain ⟨q,e,k,h',e',oo⟩:=key
 exact ⟨k,h',CW_body is111 hG rfl ((t111_eq _ _ _ _).trans (e.trans e')),oo⟩
def cmpB (r:RecD) (l:List Nat):Int:=compareBytes (keyU r) (l.map UInt8.ofNat)
theorem ge0 (n:Int):bin Tryd.prog .geq 3 (.int .i64 n) (.int .i64 0)=some (.bool (decide (0≤n))):=by rw [bin_geq]
theorem chk_sl2 (g:Heap) (a:Option Addr) (n c:Nat):chkR true (some (.slice a n c,g)) (.slice a n c)=true:=by
 show (!true||veq (.slice a n c) (.slice a n c))=true
 simp [veq]
theorem r112 {h:Heap} (hG:4≤h.n0) {c2 c3 vb:Nat} {va:Value} {R:List RecD} {a:Option Addr} {n c:Nat} {l:List Nat} (g2:h.get c2=some [ptr vb 0]) (gv:h.get vb=some [va]) (RS:RSl h va R) (g3:h.get c3=some [.slice a n c]) (hk:sliceBytes a n h=some l) {i:Nat} (hi:i<R.length) :
  ∃ h',CW 112 [i64n i,ptr c2 0,ptr c3 0] h=some (.bool (decide (0≤cmpB R[i] l)),h')∧Old h h':=by
 obtain ⟨b,o,ix,wr,ld⟩:=RS.rd hi
 obtain ⟨p,d,h1,e1,s1,o1⟩:=r67 hG wr
 have e2:=r66 (h:=h1) (c:=d) (d:=c) (by rw [o1.n0];exact hG) s1 (Old.bytes o1 hk)
 have l2 : ∀ g,Old h g→ld1 (ptr c2 0) g=some (ptr vb 0,g):=fun g og=>ld1_at (Old.get og g2) rfl rfl
 have lv : ∀ g,Old h g→ld1 (ptr vb 0) g=some (va,g):=fun g og=>ld1_at (Old.get og gv) rfl (by obtain ⟨⟨a,c,rfl⟩,_⟩:=RS;rfl)
 have l3 : ∀ g,Old h g→ld1 (ptr c3 0) g=some (.slice a n c,g):=fun g og=>ld1_at (Old.get og g3) rfl rfl
 refine ⟨h1,CW_body is112 hG rfl ((t112_eq _ _ _ _ _).trans ?_),o1⟩
 unfold t112
 simp -implicitDefEqProofs only [l2 h (Kept.refl _ _),nilCheck_ptr,addP_ptr,Nat.zero_add,lv h (Kept.refl _ _),ix,ld h (Kept.refl _ _),e1,l3 h1 o1,e2,ge0,l3 h (Kept.refl _ _),chk_sl2,Bool.and_true,thenV_some,pu_some]
 rfl
theorem call112 (x y z:Value) (h:Heap):callA Tryd.prog CW (.func (.func 112) #[] #[y,z]) [x] h=CW 112 [x,y,z] h:=by
 have hf:=Nat.le_of_ble_eq_true fs_124
 unfold callA
 simp only
 generalize Tryd.prog.funcs.size=n at *
 rw [if_pos (show (112:Nat)<n by omega)]
 rfl
theorem box_ptr (b o:Nat) (h:Heap):box (ptr b o) h=some (ptr h.next 0,h.alloc [ptr b o]):=rfl
theorem box_sl (a:Option Addr) (n c:Nat) (h:Heap):box (.slice a n c) h=some (ptr h.next 0,h.alloc [.slice a n c]):=rfl
theorem ks_lt {R:List RecD} (ks:KS R) {i j:Nat} (hij:i<j) (hj:j<R.length):cmpK R[i] R[j]<0:=by
 have h:=ks
 unfold KS at h
 rw [List.pairwise_iff_getElem] at h
 exact h i j (by omega) hj hij
theorem cmpB_mono {a b:RecD} {l:List Nat} (h:cmpK a b<0) (h1:0≤cmpB a l):0≤cmpB b l:=by
 unfold cmpB cmpK at *
 have h2:=cb_neg (keyU a) (l.map UInt8.ofNat)
 have h3:=cb_neg (keyU b) (l.map UInt8.ofNat)
 have h4:=cb_neg (keyU a) (keyU b)
 have:=cb_ntrans (l.map UInt8.ofNat)
 by_cases h5:compareBytes (keyU b) (l.map UInt8.ofNat)<0
 ·have:=cb_trans _ _ _ h h5
  omega
 ·omega
theorem r56 {h:Heap} (hG:4≤h.n0) {vb:Nat} {va:Value} {R:List RecD} (gv:h.get vb=some [va]) (RS:RSl h va R) (ks:KS R) (hR:R.length≤1000000) {a:Option Addr} {n c:Nat} {l:List Nat} (hk:sliceBytes a n h=some l) :
  ∃ k h',CW 56 [ptr vb 0,.slice a n c] h=some (i64n k,h')∧Old h h'∧k≤R.length∧(∀ i,(hi:i<R.length)→i<k→cmpB R[i] l<0) ∧ ∀ i,(hi:i<R.length)→k≤i→0≤cmpB R[i] l:=by
 have o1:Old h (h.alloc [ptr vb 0]):=Kept.alloc _ _ _
 have b1:=box_ptr vb 0 h
 have g1:(h.alloc [ptr vb 0]).get h.next=some [ptr vb 0]:=by rw [Heap.get_alloc,if_pos rfl]
 have n1:(h.alloc [ptr vb 0]).next=h.next+1:=rfl
 generalize h.alloc [ptr vb 0]=h1 at *
 have o2:Old h1 (h1.alloc [.slice a n c]):=Kept.alloc _ _ _
 have b2:=box_sl a n c h1
 have g2:(h1.alloc [.slice a n c]).get h1.next=some [.slice a n c]:=by rw [Heap.get_alloc,if_pos rfl]
 generalize h1.alloc [.slice a n c]=h2 at *
 have O2:=o1.trans o2
 have g1':=Old.get o2 g1
 have gv':=Old.get O2 gv
 have hll:=RS.len
 have lv:ld1 (ptr vb 0) h2=some (va,h2):=ld1_at gv' rfl (by obtain ⟨⟨a,c,rfl⟩,_⟩:=RS;rfl)
 have l1:ld1 (ptr h.next 0) h2=some (ptr vb 0,h2):=ld1_at g1' rfl rfl
 have hG2:4≤h2.n0:=by rw [O2.n0];exact hG
 obtain ⟨k,h3,e3,o3,hk1,hk2,hk3⟩:=r111 (h:=h2) hG2 (fv := .func (.func 112) #[] #[ptr h.next 0,ptr h1.next 0]) (n:=R.length) hR (fun i=>decide (0≤cmpB (R.getD i RecD.z) l))
  (fun i hi g og=>by
   obtain ⟨g',e,o⟩:=r112 (h:=g) (by rw [og.n0];exact hG2) (Old.get og g1') (Old.get og gv') ((RS.mono O2).mono og) (Old.get og g2) (Old.bytes (O2.trans og) hk) hi
   refine ⟨g',?_,o⟩
   rw [call112,e,List.getD_eq_getElem?_getD,List.getElem?_eq_getElem hi]
   rfl)
  (fun i j hij hj hp=>by
   rcases Nat.eq_or_lt_of_le hij with rfl|hlt
   ·exact hp
   ·have hi:i<R.length:=by omega
    simp only [List.getD_eq_getElem?_getD,List.getElem?_eq_getElem hi,List.getElem?_eq_getElem hj,Option.getD_some,decide_eq_true_eq] at hp ⊢
    exact cmpB_mono (ks_lt ks hlt hj) hp)
 refine ⟨k,h3,CW_body is56 hG rfl ((t56_eq _ _ _ _).trans ?_),O2.trans o3,hk1,fun i hi hik => ?_,fun i hi hik => ?_⟩
 ·unfold t56
  simp -implicitDefEqProofs only [b1,b2,l1,nilCheck_ptr,addP_ptr,Nat.zero_add,lv,hll,e3,thenV_some,pu_some]
 ·have:=hk2 i hik
  simp only [List.getD_eq_getElem?_getD,List.getElem?_eq_getElem hi,Option.getD_some,decide_eq_false_iff_not] at this
  omega
 ·have:=hk3 i hik hi
  simp only [List.getD_eq_getElem?_getD,List.getElem?_eq_getElem hi,Option.getD_some,decide_eq_true_eq] at this
  exact this
def lookR (o:List Nat) (n:Int):RecD:=⟨3,o,n,0,0,false,0,0⟩
theorem lookQ_at (o:List Nat) (n:Int) (r:RecD):lookQ o n r=atB r (lookR o n):=by
 unfold lookQ atB lookR
 rw [Bool.and_assoc]
theorem keyU_map (r:RecD):(keyB r).map UInt8.ofNat=keyU r:=rfl
theorem look_law {R:List RecD} (ks:KS R) {o:List Nat} {n:Int} {k:Nat} (hk:k≤R.length) (lo : ∀ i,(hi:i<R.length)→i<k→cmpB R[i] (keyB (lookR o n))<0) (_hi : ∀ i,(hi:i<R.length)→k≤i→0≤cmpB R[i] (keyB (lookR o n))) :
  (∀ h:k<R.length,atB R[k] (lookR o n)=true→R.find? (lookQ o n)=some R[k])∧((∀ h:k<R.length,atB R[k] (lookR o n)=false)→R.find? (lookQ o n)=none):=by
 have none_lo : ∀ i,(hi:i<R.length)→i<k→lookQ o n R[i]=false:=fun i hi hik=>by
  cases hq:lookQ o n R[i] with
  |false=>rfl
  |true=>
   rw [lookQ_at] at hq
   have h1:=place_key hq
   have h2:=lo i hi hik
   unfold cmpB at h2
   rw [keyU_map] at h2
   unfold cmpK at h1
   omega
 refine ⟨fun h ha => ?_,fun h => ?_⟩
 ·rw [List.find?_eq_some_iff_getElem]
  refine ⟨by rw [lookQ_at];exact ha,k,h,rfl,fun j hj => ?_⟩
  rw [none_lo j (by omega) hj]
  rfl
 ·rw [List.find?_eq_none]
  intro x hx hq
  obtain ⟨j,hj,rfl⟩:=List.mem_iff_getElem.1 hx
  by_cases h1:j<k
  ·rw [none_lo j hj h1] at hq
   cases hq
  ·have hkl:k<R.length:=by omega
   have hf:=h hkl
   rw [lookQ_at] at hq
   rcases Nat.eq_or_lt_of_le (Nat.le_of_not_lt h1) with rfl|hlt
   ·rw [hf] at hq
    cases hq
   ·have h2:=ks_lt ks hlt hj
    have h3:=place_key hq
    have h4:=_hi k hkl (Nat.le_refl k)
    unfold cmpB at h4
    rw [keyU_map] at h4
    unfold cmpK at h2 h3
    rw [cb_eq _ _ h3] at h2
    omega
theorem results73:Tryd.f73.results.toList = [.cell 6 58,.tmp 7]:=by kernel_rfl
theorem lookR_wf {o:List Nat} (ho:D32 o) {n:Int} (h1:0≤n) (h2:n<16):(lookR o n).Wf:=by
 have z:=RecD.z_wf
 exact { z with kind:=(by decide:3<256),obj:=ho,holder:=⟨by show -9223372036854775808≤n;omega,by show n≤9223372036854775807;omega⟩ }
theorem bld_look {o:List Nat} (ho:D32 o) (n:Int):bldR zrC [(0,1,.int .u8 3),(1,32,.agg (u8s o).toArray),(33,1,.int .i64 n)]=some (recV (lookR o n)):=by
 have e:fillL zrC [(0,1,.int .u8 3),(1,32,.agg (u8s o).toArray),(33,1,.int .i64 n)]=fillL ([.int .u8 (3:Int)]++(u8s z32 ++ [.int .i64 0,.int .u64 0,.int .u64 0,.bool false,.int .i64 0,.int .i64 0])) [(1,32,.agg (u8s o).toArray),(33,1,.int .i64 n)]:=rfl
 have ho':(u8s o).length=32:=by rw [List.length_map];exact ho.1
 unfold bldR
 rw [e,fill_mid (A := [.int .u8 (3:Int)]) (B:=u8s z32) (o:=1) (n:=32) rfl rfl rfl ho']
 have e3:([.int .u8 (3:Int)]++(u8s o ++ [Value.int .i64 0,.int .u64 0,.int .u64 0,.bool false,.int .i64 0,.int .i64 0]))=(([.int .u8 (3:Int)]++u8s o)++([Value.int .i64 0] ++ [.int .u64 0,.int .u64 0,.bool false,.int .i64 0,.int .i64 0])):=by simp
 have e4 : ∀ tl:List Value,fillL (([Value.int .u8 3]++u8s o)++([Value.int .i64 0]++tl)) ((33,1,.int .i64 n) :: [])=fillL (([Value.int .u8 3]++u8s o)++([Value.int .i64 n]++tl)) []:=fun tl=>fill_int (by rw [List.length_append,ho'];rfl)
 rw [e3,e4]
 simp [fillL,recC,lookR]
set_option maxRecDepth 100000 in
theorem r73 {h:Heap} (hG:4≤h.n0) {vb:Nat} {va:Value} {R:List RecD} (gv:h.get vb=some [va]) (RS:RSl h va R) (ks:KS R) (vl:Vld R) (hR:R.length≤1000000) {o:List Nat} (ho:D32 o) (n:Int) :
  ∃ h',CW 73 [ptr vb 0,.agg (u8s o).toArray,.int .i64 n] h=some (.tuple #[recV ((R.find? (lookQ o n)).getD RecD.z),.bool (R.find? (lookQ o n)).isSome],h')∧Old h h':=by
 have dc:=dig_cells ho
 have b1:=box_at h (u8s o) dc.2.2
 have o1:Old h (h.alloc (u8s o)):=Kept.alloc _ _ _
 have g1:(h.alloc (u8s o)).get h.next=some (u8s o):=by rw [Heap.get_alloc,if_pos rfl]
 have n1:(h.alloc (u8s o)).next=h.next+1:=rfl
 generalize h.alloc (u8s o)=h1 at *
 obtain ⟨h2,z2,o2,g2,n2⟩:=fresh zrC h1
 rw [n1] at z2 g2
 have O2:=o1.trans o2
 have hn0:=h.n0_le_next
 have bz:bldR zrC []=some (recV RecD.z):=bld_zero
 have none_ : ∀ (x:Nat→Value) (g:Heap),x 6=ptr (h.next+1) 0→x 7 = .bool false→R.find? (lookQ o n)=none→g.get (h.next+1)=some (recC RecD.z)→resultsA Tryd.prog Tryd.f73.results.toList (mkF 56 x) g=some (.tuple #[recV ((R.find? (lookQ o n)).getD RecD.z),.bool (R.find? (lookQ o n)).isSome],g):=by
  intro x g x6 x7 q gg
  rw [q,res_cell_tmp results73 agg58 siz58 (n:=56) (by decide) (by decide) x (show ldN 39 (x 6) g=some (recV RecD.z,g) by
   rw [x6]
   exact ldN_all gg (rec_cells RecD.z_wf).1 (rec_cells RecD.z_wf).2.1),x7]
  rfl
 have some_ : ∀ (x:Nat→Value) (g:Heap) (r:RecD),r.Wf→x 6=ptr (h.next+1) 0→x 7 = .bool true→g.get (h.next+1)=some (recC r)→resultsA Tryd.prog Tryd.f73.results.toList (mkF 56 x) g=some (.tuple #[recV r,.bool true],g):=by
  intro x g r w x6 x7 gg
  rw [res_cell_tmp results73 agg58 siz58 (n:=56) (by decide) (by decide) x (show ldN 39 (x 6) g=some (recV r,g) by
   rw [x6]
   exact ldN_all gg (rec_cells w).1 (rec_cells w).2.1),x7]
 have st : ∀ (g:Heap) (r:RecD),r.Wf→Old h2 g → ∃ g',stN 39 (ptr (h.next+1) 0) (recV r) g=some (undef,g')∧Old h g'∧g'.get (h.next+1)=some (recC r):=fun g r w og=>by
  obtain ⟨g',e,k,q,_,_⟩:=stored_all (n:=39) (k':=recC r) (Old.get og g2) (by rw [og.n0,O2.n0];omega) rfl (rec_cells w).1 (rec_typed w).all.2.1
  exact ⟨g',e,Old.of_new (O2.trans og) k (by omega),q⟩
 have key : ∃ q:Out,t73 CW (ptr vb 0) (.agg (u8s o).toArray) (.int .i64 n) h=q ∧ ∃ h',q=some (.tuple #[recV ((R.find? (lookQ o n)).getD RecD.z),.bool (R.find? (lookQ o n)).isSome],h')∧Old h h':=by
  refine ⟨_,rfl,?_⟩
  unfold t73
  have lss0:bin Tryd.prog .lss 3 (.int .i64 n) (.int .i64 0)=some (.bool (decide (n<0))):=by rw [bin_lss]
  have geq16:bin Tryd.prog .geq 3 (.int .i64 n) (.int .i64 16)=some (.bool (decide (16≤n))):=by rw [bin_geq]
  by_cases hn:n<0∨16≤n
  ·have hq:R.find? (lookQ o n)=none:=by
    rw [List.find?_eq_none]
    intro x hx hq
    have h1:=recB_holder (vl x hx).2
    unfold lookQ at hq
    simp only [Bool.and_eq_true,decide_eq_true_eq] at hq
    omega
   obtain ⟨g',e,og,gg⟩:=st h2 RecD.z RecD.z_wf (Kept.refl _ _)
   have og2:True:=trivial
   rcases hn with hn|hn
   ·simp -implicitDefEqProofs only [b1,z2,nil25,bf,guardK_true,lss0,decide_eq_true hn,Bool.false_eq_true,if_false,if_true,bt',guardK_false,bz,e,thenV_some,pu_some]
    exact ⟨g',none_ _ g' rfl rfl hq gg,og⟩
   ·by_cases hn0:n<0
    ·omega
    ·simp -implicitDefEqProofs only [b1, z2, nil25, bf, guardK_true, lss0, decide_eq_false hn0, geq16, decide_eq_true hn, Bool.false_eq_true, if_false, bz, e, thenV_some, pu_some]
     exact ⟨g',none_ _ g' rfl rfl hq gg,og⟩
  ·have hn1 : ¬n<0:=fun h=>hn (.inl h)
   have hn2 : ¬16≤n:=fun h=>hn (.inr h)
   simp -implicitDefEqProofs only [b1, z2, nil25, bf, guardK_true, lss0, decide_eq_false hn1, geq16, decide_eq_false hn2, Bool.false_eq_true, if_false, bz, thenV_some, pu_some]
   have l4:=ldN_all (Old.get o2 g1) dc.1 dc.2.1
   have bl:=bld_look ho n
   have wl:=lookR_wf ho (n:=n) (by omega) (by omega)
   obtain ⟨h3,h4,e3,e4,o4,g4⟩:=rec_var h2 wl
   rw [n2,n1] at e3 e4 g4
   have O4:=O2.trans o4
   have L8 : ∀ g,Old h4 g→ldN 39 (ptr (h.next+1+1) 0) g=some (recV (lookR o n),g):=fun g og=>ldN_all (Old.get og g4) (rec_cells wl).1 (rec_cells wl).2.1
   obtain ⟨p,d,h5,e5,s5,o5⟩:=r67 (h:=h4) (by rw [O4.n0];exact hG) wl
   have O5:=O4.trans o5
   obtain ⟨k,h6,e6,o6,k1,k2,k3⟩:=r56 (h:=h5) (c:=d) (by rw [O5.n0];exact hG) (Old.get O5 gv) (RS.mono O5) ks hR s5
   have O6:=O5.trans o6
   have lv : ∀ g,Old h g→ld1 (ptr vb 0) g=some (va,g):=fun g og=>ld1_at (Old.get og gv) rfl (by obtain ⟨⟨a,c,rfl⟩,_⟩:=RS;rfl)
   have hll:=RS.len
   obtain ⟨law1,law2⟩:=look_law ks k1 k2 k3
   simp -implicitDefEqProofs only [l4,bl,e3,e4,L8 h4 (Kept.refl _ _),e5,e6,nilCheck_ptr,addP_ptr,Nat.zero_add,lv h6 O6,hll,lss3,thenV_some,pu_some]
   by_cases hkl:k<R.length
   ·obtain ⟨b,oo,ix,wr,ld⟩:=RS.rd hkl
    obtain ⟨h7,e7,o7⟩:=r62 (h:=h6) (by rw [O6.n0];exact hG) wr
    have O7:=O6.trans o7
    obtain ⟨h8,e8,o8⟩:=r62 (h:=h7) (by rw [O7.n0];exact hG) wl
    have O8:=O7.trans o8
    have O48:=((o5.trans o6).trans o7).trans o8
    have ck:chkR true (ldN 39 (ptr (h.next+1+1) 0) h6) (recV (lookR o n))=true:=by
     rw [L8 h6 (o5.trans o6)]
     exact chk_agg _ _ (rec_typed wl).kinds
    simp -implicitDefEqProofs only [decide_eq_true hkl,bt,guardK_true,nilCheck_ptr,addP_ptr,Nat.zero_add,lv h6 O6,ix,ld h6 O6,e7,L8 h7 ((o5.trans o6).trans o7),e8,eq101 wr wl,ck,Bool.and_true,if_true,thenV_some,pu_some]
    cases ha:atB R[k] (lookR o n) with
    |true=>
     obtain ⟨g',e,og,gg⟩:=st h8 R[k] wr (o4.trans O48)
     simp -implicitDefEqProofs only [lv h8 O8, ix, ld h8 O8, e, thenV_some, pu_some]
     refine ⟨g',?_,og⟩
     rw [law1 hkl ha]
     exact some_ _ g' R[k] wr rfl rfl gg
    |false=>
     obtain ⟨g',e,og,gg⟩:=st h8 RecD.z RecD.z_wf (o4.trans O48)
     simp -implicitDefEqProofs only [e, thenV_some]
     exact ⟨g',none_ _ g' rfl rfl (law2 fun _=>ha) gg,og⟩
   ·obtain ⟨g',e,og,gg⟩:=st h6 RecD.z RecD.z_wf (o4.trans (o5.trans o6))
    simp -implicitDefEqProofs only [decide_eq_false hkl, bf', guardK_false, chkJ, Bool.and_true, Bool.false_eq_true, if_false, e, thenV_some]
    exact ⟨g',none_ _ g' rfl rfl (law2 fun q=>absurd q hkl) gg,og⟩
 obtain ⟨q,e,h',e',oo⟩:=key
 exact ⟨h',CW_body is73 hG rfl ((t73_eq _ _ _ _ _).trans (e.trans e')),oo⟩
end Go.Proofs.YtdnahgfgoajmcaaDoor

namespace Go.Proofs.YtdnahgfgoajmcaaDoor
open Go Go.Abs
open Go.Lib (compareBytes)
attribute [local congr] thenV_congr
theorem is105:IsFn Tryd.prog 105 Tryd.f105:=⟨by kernel_rfl,by kernel_rfl,by kernel_rfl,by kernel_rfl⟩
theorem is52:IsFn Tryd.prog 52 Tryd.f52:=⟨by kernel_rfl,by kernel_rfl,by kernel_rfl,by kernel_rfl⟩
theorem is16:IsFn Tryd.prog 16 Tryd.f16:=⟨by kernel_rfl,by kernel_rfl,by kernel_rfl,by kernel_rfl⟩
theorem results105:Tryd.f105.results.toList = [.tmp 4]:=by kernel_rfl
theorem b105_3e (C:CallF) (e:Env) (h:Heap):b105_3 C 0 e h=k105_1 C e h:=rfl
def vdQ (r x:RecD):Bool:=newerR x r||((((decide (r.kind=3)&&decide (x.kind=1))&&decide (x.holder=r.holder))&&decide (r.inc<x.inc))||((decide (r.kind=3)&&decide (x.kind=2))&&decide (x.obj=r.obj)))
theorem gtr32 (a b:Nat):bin Tryd.prog .gtr 32 (.int .u64 (a:Int)) (.int .u64 (b:Int))=some (.bool (decide (b<a))):=by
 rw [bin_gtr]
 congr 2
 rw [decide_eq_decide]
 omega
set_option maxRecDepth 100000 in
theorem r105 {h:Heap} (hG:4≤h.n0) (hz:GZ h) {r:RecD} (w:r.Wf) {v:Value} {R:List RecD} (hv:RSl h v R) (hR:R.length≤1000000) :
  ∃ h',CW 105 [recV r,v] h=some (.bool (R.any (vdQ r)),h')∧Old h h':=by
 have hll:=hv.len
 obtain ⟨h1,b1,o1,g1,n1⟩:=rec_box2 h w
 have key : ∃ q:Out,t105 CW (recV r) v h=q ∧ ∃ h',q=some (.bool (R.any (vdQ r)),h')∧Old h h':=by
  refine ⟨_,rfl,?_⟩
  unfold t105
  simp -implicitDefEqProofs only [b1,thenV_some]
  refine endL_fin (n:=61) (fin:=fun ex y g=>Old h g∧((ex = .exit 0∧R.any (vdQ r)=false)∨(ex = .ret∧R.any (vdQ r)=true∧y 4 = .bool true))) (Q:=fun q:Out => ∃ h',q=some (.bool (R.any (vdQ r)),h')∧Old h h')
   (loop_fin (t105l105_1010_eq CW) (Inv:=fun k y g => ∃ i,i+k=R.length∧y 1=v∧y 2=ptr h.next 0∧y 5=i64n i∧Old h1 g∧(R.take i).any (vdQ r)=false) ?_ R.length (by have:rounds=18446744073709551616:=rfl;omega) ⟨0,by omega,rfl,rfl,rfl,Kept.refl _ _,by simp⟩) ?_
  ·rintro k y g ⟨i,hik,y1,y2,y5,Og,hf⟩
   have O:=o1.trans Og
   unfold t105l105_1010
   simp -implicitDefEqProofs only [y1,y5,hll,lss3,thenV_some,pu_some]
   by_cases hi:i<R.length
   ·obtain ⟨b,oo,ix,wr,ld⟩:=hv.rd hi
    have hany:=any_take hi (vdQ r)
    rw [hf,Bool.false_or] at hany
    have a5:bin Tryd.prog .add 3 (i64n i) (.int .i64 1)=some (i64n (i+1)):=add31 (by omega)
    have whole:vdQ r R[i]=true→R.any (vdQ r)=true:=fun q=>by
     rw [List.any_eq_true]
     exact ⟨R[i],List.getElem_mem hi,q⟩
    generalize R[i]=x at *
    obtain ⟨h2,h3,e2,e3,o3,g3⟩:=rec_var g wr
    have O3:=Og.trans o3
    obtain ⟨h4,e4,o4⟩:=r49 (h:=h3) (by rw [O3.n0,o1.n0];exact hG) ((hz.old o1).old O3) wr w
    have O4:=O3.trans o4
    have LX:=ldN_all g3 (rec_cells wr).1 (rec_cells wr).2.1
    have LR:=ldN_all (Old.get O3 g1) (rec_cells w).1 (rec_cells w).2.1
    have X:=r_ld wr (Old.get o4 g3)
    have Y:=r_ld w (Old.get O4 g1)
    have ret : ∀ x':Nat→Value,x' 4 = .bool true→vdQ r x=true→Rnd 61 (fun k y g => ∃ i,i+k=R.length∧y 1=v∧y 2=ptr h.next 0∧y 5=i64n i∧Old h1 g∧(R.take i).any (vdQ r)=false) (fun ex y g=>Old h g∧((ex = .exit 0∧R.any (vdQ r)=false)∨(ex = .ret∧R.any (vdQ r)=true∧y 4 = .bool true))) k (some (.ret,mkF 61 x',h4)):=fun x' h4 q=>Rnd.ret ⟨o1.trans O4,.inr ⟨rfl,whole q,h4⟩⟩
    have nxt : ∀ x':Nat→Value,x' 1=y 1→x' 2=y 2→x' 5=i64n (i+1)→vdQ r x=false→Rnd 61 (fun k y g => ∃ i,i+k=R.length∧y 1=v∧y 2=ptr h.next 0∧y 5=i64n i∧Old h1 g∧(R.take i).any (vdQ r)=false) (fun ex y g=>Old h g∧((ex = .exit 0∧R.any (vdQ r)=false)∨(ex = .ret∧R.any (vdQ r)=true∧y 4 = .bool true))) k (some (.normal,mkF 61 x',h4)):=fun x' q1 q2 q5 q=>Rnd.next (k-1) (by omega) ⟨i+1,by omega,q1.trans y1,q2.trans y2,q5,O4,by rw [hany];exact q⟩
    simp -implicitDefEqProofs only [decide_eq_true hi, y2, ix, ld g O, e2, e3, LX, LR, e4, addP_ptr, Nat.zero_add, thenV_some, pu_some]
    cases hn:newerR x r with
    |true=>
     simp -implicitDefEqProofs only [bt', bu', guardK_false, if_true, thenV_some]
     exact ret _ rfl (by unfold vdQ;rw [hn];rfl)
    |false=>
     by_cases hr:r.kind=3
     ·by_cases hx:x.kind=1
      ·have hx2 : ¬x.kind=2:=by omega
       by_cases hh:x.holder=r.holder
       ·by_cases hc:r.inc<x.inc
        ·simp -implicitDefEqProofs only [X.l0, X.l33, X.l34, Y.l0, Y.l33, Y.l34, bt', bt, bf, guardK_false, guardK_true, if_true, Bool.false_eq_true, if_false, eq56, eql56 x.kind 1 1 rfl, eqI, gtr32, decide_eq_true hr, decide_eq_true hx, decide_eq_true hh, decide_eq_true hc, thenV_some, pu_some]
         exact ret _ rfl (by unfold vdQ;simp [hr,hx,hh,hc])
        ·simp -implicitDefEqProofs only [X.l0, X.l33, X.l34, Y.l0, Y.l33, Y.l34, bt, bf, bf', guardK_false, guardK_true, if_true, Bool.false_eq_true, if_false, eq56, eql56 x.kind 1 1 rfl, eql56 x.kind 2 2 rfl, eqI, gtr32, decide_eq_true hr, decide_eq_true hx, decide_eq_true hh, decide_eq_false hc, decide_eq_false hx2, a5, thenV_some, pu_some]
         exact nxt _ rfl rfl rfl (by unfold vdQ;simp [hn,hc,hx2])
       ·simp -implicitDefEqProofs only [X.l0, X.l33, Y.l0, Y.l33, bt, bf, bf', guardK_false, guardK_true, if_true, Bool.false_eq_true, if_false, eq56, eql56 x.kind 1 1 rfl, eql56 x.kind 2 2 rfl, eqI, decide_eq_true hr, decide_eq_true hx, decide_eq_false hh, decide_eq_false hx2, a5, thenV_some, pu_some]
        exact nxt _ rfl rfl rfl (by unfold vdQ;simp [hn,hh,hx2])
      ·by_cases hx2:x.kind=2
       ·by_cases ho:x.obj=r.obj
        ·simp -implicitDefEqProofs only [X.l0, X.l1, Y.l0, Y.l1, bt, bf, bf', guardK_false, guardK_true, if_true, Bool.false_eq_true, if_false, eq56, eql56 x.kind 1 1 rfl, eql56 x.kind 2 2 rfl, eqD35 wr.obj w.obj, decide_eq_true hr, decide_eq_false hx, decide_eq_true hx2, decide_eq_true ho, thenV_some, pu_some]
         exact ret _ rfl (by unfold vdQ;simp [hr,hx2,ho])
        ·simp -implicitDefEqProofs only [X.l0, X.l1, Y.l0, Y.l1, bt, bf, bf', guardK_false, guardK_true, if_true, Bool.false_eq_true, if_false, eq56, eql56 x.kind 1 1 rfl, eql56 x.kind 2 2 rfl, eqD35 wr.obj w.obj, decide_eq_true hr, decide_eq_false hx, decide_eq_true hx2, decide_eq_false ho, a5, thenV_some, pu_some]
         exact nxt _ rfl rfl rfl (by unfold vdQ;simp [hn,hx,ho])
       ·simp -implicitDefEqProofs only [X.l0, Y.l0, bt, bf, bf', guardK_false, guardK_true, if_true, Bool.false_eq_true, if_false, eq56, eql56 x.kind 1 1 rfl, eql56 x.kind 2 2 rfl, decide_eq_true hr, decide_eq_false hx, decide_eq_false hx2, a5, thenV_some, pu_some]
        exact nxt _ rfl rfl rfl (by unfold vdQ;simp [hn,hx,hx2])
     ·simp -implicitDefEqProofs only [Y.l0, bf, bf', guardK_false, guardK_true, Bool.false_eq_true, if_false, eq56, decide_eq_false hr, a5, thenV_some, pu_some]
      exact nxt _ rfl rfl rfl (by unfold vdQ;simp [hn,hr])
   ·have hE:i=R.length:=by omega
    rw [hE,List.take_length] at hf
    simp -implicitDefEqProofs only [decide_eq_false hi]
    exact Rnd.out 0 ⟨O,.inl ⟨rfl,hf⟩⟩
  ·rintro ex z g ⟨Og,⟨rfl,q⟩|⟨rfl,q,z4⟩⟩
   ·simp -implicitDefEqProofs only [endL_exit,b105_3e,t105k105_1_eq]
    unfold t105k105_1
    rw [q]
    exact ⟨g,rfl,Og⟩
   ·rw [endL_ret,res_one results105 (by decide),z4,q]
    exact ⟨g,rfl,Og⟩
 obtain ⟨q,e,h',e',oo⟩:=key
 exact ⟨h',CW_body is105 hG rfl ((t105_eq _ _ _ _).trans (e.trans e')),oo⟩
end Go.Proofs.YtdnahgfgoajmcaaDoor

namespace Go.Proofs.YtdnahgfgoajmcaaDoor
open Go Go.Abs
attribute [local congr] thenV_congr
theorem r26L {h:Heap} (hG:4≤h.n0) {v:Value} {L:List RecD} (x:RcS h v L) (hl:L.length≤1000000) : ∃ v' h',CW 26 [v] h=some (v',h')∧Old h h'∧RLst h' h.next v' L:=by
 have o1:Old h (h.alloc []):=Kept.alloc _ _ _
 have r0:RLst (h.alloc []) h.next (.slice (some ⟨h.next,0,none⟩) 0 0) []:=⟨(fun _ h=>by cases h),h.next,none,rfl,by rw [Heap.get_alloc,if_pos rfl];rfl,Nat.le_refl _,.inl ⟨rfl,rfl⟩⟩
 obtain ⟨v',h',e,r,k,_⟩:=r0.pushL (x.mono o1) (by rw [o1.n0];exact h.n0_le_next) o1.next (by decide) hl
 rw [List.nil_append] at r
 have b0:bslR 39 (.agg #[(.int .u8 0),(.int .u8 0),(.int .u8 0),(.int .u8 0),(.int .u8 0),(.int .u8 0),(.int .u8 0),(.int .u8 0),(.int .u8 0),(.int .u8 0),(.int .u8 0),(.int .u8 0),(.int .u8 0),(.int .u8 0),(.int .u8 0),(.int .u8 0),(.int .u8 0),(.int .u8 0),(.int .u8 0),(.int .u8 0),(.int .u8 0),(.int .u8 0),(.int .u8 0),(.int .u8 0),(.int .u8 0),(.int .u8 0),(.int .u8 0),(.int .u8 0),(.int .u8 0),(.int .u8 0),(.int .u8 0),(.int .u8 0),(.int .u8 0),(.int .i64 0),(.int .u64 0),(.int .u64 0),(.bool false),(.int .i64 0),(.int .i64 0)]) 0 [] h=some (.slice (some ⟨h.next,0,none⟩) 0 0,h.alloc []):=rfl
 refine ⟨v',h',CW_body is26 hG rfl ((t26_eq _ _ _).trans ?_),Old.of_new o1 k (Nat.le_refl _),r⟩
 unfold t26
 simp -implicitDefEqProofs only [b0, e, thenV_some]
theorem RLst.take {h:Heap} {N:Nat} {v:Value} {L:List RecD} (x:RLst h N v L) (hL:L ≠ []) {j:Nat} (hj:j≤L.length) : ∃ v',slR 39 v none (some (i64n j)) none=some v'∧RcS h v' (L.take j):=by
 obtain ⟨hw,b,s,rfl,g1,g2,g3⟩:=x
 rcases g3 with ⟨h1,_⟩|⟨_,rfl⟩
 ·exact absurd h1 hL
 ·have hd : ∀ p∈L.take j,RecD.Wf p:=fun p hp=>hw p (List.mem_of_mem_take hp)
  have hl:=recsC_len hw
  have hlt:=recsC_len hd
  have hlen:(L.take j).length=j:=by rw [List.length_take];omega
  have hcs:(recsC L).take (j*39)=recsC (L.take j):=by
   have e:recsC L=recsC (L.take j)++recsC (L.drop j):=by rw [←recsC_app,List.take_append_drop]
   rw [e,List.take_left' (by rw [hlt,hlen])]
  refine ⟨.slice (some ⟨b,0,some 39⟩) j L.length,?_,hd,some ⟨b,0,some 39⟩,L.length,by rw [hlen],(fun h=>by cases h),recsC_typed hd,fun _=>⟨b,0,some 39,recsC L,rfl,g1,?_,?_⟩⟩
  ·unfold slR sliceSl
   simp only [bnd_hi hj (Nat.le_refl _)]
   rw [if_pos ⟨True.intro,by decide⟩]
   rfl
  ·rw [show recK.length=39 from rfl,hl,hlen,Nat.zero_add]
   exact Nat.mul_le_mul_right _ hj
  ·rw [show recK.length=39 from rfl,List.drop_zero,hlen,hcs]
theorem RLst.drop {h:Heap} {N:Nat} {v:Value} {L:List RecD} (x:RLst h N v L) (hL:L ≠ []) {j:Nat} (hj:j≤L.length) : ∃ v',slR 39 v (some (i64n j)) none none=some v'∧RcS h v' (L.drop j):=by
 obtain ⟨hw,b,s,rfl,g1,g2,g3⟩:=x
 rcases g3 with ⟨h1,_⟩|⟨_,rfl⟩
 ·exact absurd h1 hL
 ·have hd : ∀ p∈L.drop j,RecD.Wf p:=fun p hp=>hw p (List.mem_of_mem_drop hp)
  have hl:=recsC_len hw
  have hlt:=recsC_len hd
  have hlen:(L.drop j).length=L.length-j:=List.length_drop ..
  have hm:(L.length-j)*39=L.length*39-j*39:=Nat.sub_mul ..
  have hjm:j*39≤L.length*39:=Nat.mul_le_mul_right _ hj
  have hdt:(L.take j).length=j:=by rw [List.length_take];omega
  have hcs:(recsC L).drop (j*39)=recsC (L.drop j):=by
   have e:recsC L=recsC (L.take j)++recsC (L.drop j):=by rw [←recsC_app,List.take_append_drop]
   rw [e,List.drop_left' (by rw [recsC_len fun p hp=>hw p (List.mem_of_mem_take hp),hdt])]
  have hb:boundsA L.length L.length (some (i64n j)) none none=some (j,L.length,L.length):=by
   have a1:boundA L.length L.length none=some L.length:=rfl
   have a2:boundA 0 L.length (some (i64n j))=some j:=by
    unfold boundA i64n
    simp only
    rw [if_pos (by omega)]
    rfl
   unfold boundsA
   simp only [a1,a2]
  refine ⟨.slice (some ⟨b,0+j*39,some 39⟩) (L.length-j) (L.length-j),?_,hd,some ⟨b,0+j*39,some 39⟩,L.length-j,by rw [hlen],(fun h=>by cases h),recsC_typed hd,fun _=>⟨b,0+j*39,some 39,recsC L,rfl,g1,?_,?_⟩⟩
  ·unfold slR sliceSl
   simp only [hb]
   rw [if_pos ⟨True.intro,by decide⟩]
  ·rw [show recK.length=39 from rfl,hl,hlen]
   omega
  ·rw [show recK.length=39 from rfl,Nat.zero_add,hcs,hlen,List.take_of_length_le (by rw [hlt,hlen];exact Nat.le_refl _)]
theorem RLst.keep2 {h h':Heap} {N:Nat} {v w:Value} {L:List RecD} {c:Nat} (x:RLst h N v L) (k:Kept h h' (· = c)) (hc:h.get c=some [w]):RLst h' N v L:=by
 have hb:=x.blk
 have hl:=recsC_len x.1
 exact x.keep k (fun e=>ne_len hb.2 hc (by omega) e)
end Go.Proofs.YtdnahgfgoajmcaaDoor

namespace Go.Proofs.YtdnahgfgoajmcaaDoor
open Go Go.Abs
attribute [local congr] thenV_congr
theorem merged_len (A B:List RecD):(merged A B).length≤A.length+B.length:=by
 have h1:=newest_len (A++B)
 rw [List.length_append] at h1
 have h2:=List.length_filter_le (keepR (newest (A++B))) (newest (A++B))
 show (sortR _).length≤_
 rw [(sortR_perm _).length_eq]
 omega
def Is (T P:List RecD):Prop := ∀ x,x∈T↔Nf P x
theorem RLst.weak {h:Heap} {N M:Nat} {v:Value} {L:List RecD} (x:RLst h N v L) (hm:M≤N):RLst h M v L:=by
 obtain ⟨hw,b,s,rfl,g1,g2,g3⟩:=x
 exact ⟨hw,b,s,rfl,g1,Nat.le_trans hm g2,g3⟩
end Go.Proofs.YtdnahgfgoajmcaaDoor

namespace Go.Proofs.YtdnahgfgoajmcaaDoor
open Go Go.Abs
attribute [local congr] thenV_congr
theorem nil_rcs (h:Heap):RcS h (.slice none 0 0) []:=⟨(fun _ h=>by cases h),none,0,rfl,(fun _=>rfl),recsC_typed (P := []) (fun _ h=>by cases h),fun h=>absurd h (Nat.lt_irrefl 0)⟩
theorem nqE (n:Int):bin Tryd.prog .neq 26 (.int .i64 n) (.int .i64 n)=some (.bool false):=by rw [bin_neq];simp
theorem b0_recs (h:Heap):bslR 39 (.agg #[(.int .u8 0),(.int .u8 0),(.int .u8 0),(.int .u8 0),(.int .u8 0),(.int .u8 0),(.int .u8 0),(.int .u8 0),(.int .u8 0),(.int .u8 0),(.int .u8 0),(.int .u8 0),(.int .u8 0),(.int .u8 0),(.int .u8 0),(.int .u8 0),(.int .u8 0),(.int .u8 0),(.int .u8 0),(.int .u8 0),(.int .u8 0),(.int .u8 0),(.int .u8 0),(.int .u8 0),(.int .u8 0),(.int .u8 0),(.int .u8 0),(.int .u8 0),(.int .u8 0),(.int .u8 0),(.int .u8 0),(.int .u8 0),(.int .u8 0),(.int .i64 0),(.int .u64 0),(.int .u64 0),(.bool false),(.int .i64 0),(.int .i64 0)]) 0 [] h=some (.slice (some ⟨h.next,0,none⟩) 0 0,h.alloc []):=rfl
end Go.Proofs.YtdnahgfgoajmcaaDoor

namespace Go.Proofs.YtdnahgfgoajmcaaDoor
open Go Go.Abs
attribute [local congr] thenV_congr
open Go.Lib (compareBytes)
theorem less_cb : ∀ a b:List UInt8,Op.bytesLess a b=decide (compareBytes a b<0)
 | [],[]=>rfl
 |_::_,[]=>rfl
 | [],_::_=>rfl
 |x::a,y::b=>by
  rw [cb_cons]
  unfold Op.bytesLess
  rw [less_cb a b]
  by_cases e1:x.toNat<y.toNat
  ·have h1:x<y:=UInt8.lt_iff_toNat_lt.2 e1
   rw [if_pos e1]
   simp [h1]
  ·have h1 : ¬x<y:=fun h=>e1 (UInt8.lt_iff_toNat_lt.1 h)
   rw [if_neg e1]
   by_cases e2:y.toNat<x.toNat
   ·have h2:x≠y:=fun h=>by subst h;omega
    rw [if_pos e2]
    simp [h1,h2]
   ·have h2:x=y:=UInt8.toNat_inj.1 (by omega)
    subst h2
    rw [if_neg e2]
    simp
end Go.Proofs.YtdnahgfgoajmcaaDoor

namespace Go.Proofs.YtdnahgfgoajmcaaDoor
open Go Go.Abs
open Go.Lib (compareBytes)
attribute [local congr] thenV_congr
theorem results52:Tryd.f52.results.toList = [.tmp 2,.tmp 3]:=by kernel_rfl
theorem b52_4e (C:CallF) (e:Env) (h:Heap):b52_4 C 0 e h=k52_2 C e h:=rfl
theorem b52_9e (C:CallF) (e:Env) (h:Heap):b52_9 C 1 e h=k52_8 C e h:=rfl
theorem b52_17e (C:CallF) (e:Env) (h:Heap):b52_17 C 2 e h=k52_16 C e h:=rfl
theorem lss_str (a b:ByteArray):bin Tryd.prog .lss 9 (.string a) (.string b)=some (.bool (Op.bytesLess a.toList b.toList)):=by
 unfold bin eqOk
 simp only [if_true]
 unfold binA
 simp only [ground,flat,Bool.and_self,if_true]
 have e:(binOp .lss 9 (.string a) (.string b))=pure (.bool (Op.bytesLess a.toList b.toList)):=rfl
 rw [e]
 rfl
theorem lss_key (a b:RecD):bin Tryd.prog .lss 9 (.string (strOf (keyB a))) (.string (strOf (keyB b)))=some (.bool (decide (cmpK a b<0))):=by
 have hl : ∀ l:List Nat,(strOf l).toList=l.map UInt8.ofNat:=fun l=>Go.ByteArray.toList_mk _
 rw [lss_str,less_cb,hl,hl]
 rfl
theorem chkRec {r:RecD} (w:r.Wf) (g:Heap):chkR true (some (recV r,g)) (recV r)=true:=chk_agg _ _ (rec_typed w).kinds
set_option maxRecDepth 100000 in
theorem nl_in {h g0:Heap} (hG:4≤h.n0) (O:Old h g0) {v w:Value} {R out:List RecD} (hv:RSl h v R) {i:Nat} (hi:i<R.length) {N:Nat} (hw:RLst g0 N w out) (hl:out.length≤1000000)
  {x:Nat→Value} (x0:x 0=v) (x4:x 4=w) (x5:x 5=i64n i) (x6:x 6=i64n 0) :
  Fin 76 (fun ex y g=>ex = .exit 2∧Old g0 g∧y 0=v∧y 4=w∧y 5=i64n i ∧ ∃ a,y 6=i64n a∧a≤out.length∧(∀ j,(hj:j<out.length)→j<a→cmpK out[j] R[i]<0) ∧ ∀ ha:a<out.length,¬cmpK out[a] R[i]<0) (iter (codeA Tryd.prog CW (partOf Tryd.f52 [1,1,0,1,0,0,1,0,0,1,1,1,0,0,0])) rounds (mkF 76 x) g0):=by
 have hol:=hw.rcs.rsl.len
 obtain ⟨bi,oi,ixi,wi,ldi⟩:=hv.rd hi
 refine loop_fin (t52l52_11010010011100_eq CW) (Inv:=fun k y g => ∃ a,a+k=out.length∧y 0=v∧y 4=w∧y 5=i64n i∧y 6=i64n a∧Old g0 g ∧ ∀ j,(hj:j<out.length)→j<a→cmpK out[j] R[i]<0) ?_ out.length (by have:rounds=18446744073709551616:=rfl;omega) ⟨0,by omega,x0,x4,x5,x6,Kept.refl _ _,fun j _ hj=>absurd hj (Nat.not_lt_zero j)⟩
 rintro k y g ⟨a,hak,y0,y4,y5,y6,Og,lo⟩
 unfold t52l52_11010010011100
 simp -implicitDefEqProofs only [y4,y6,hol,lss3,thenV_some,pu_some]
 by_cases ha:a<out.length
 ·obtain ⟨b,o,ix,wr,ld⟩:=hw.rcs.rsl.rd ha
  obtain ⟨g1,e1,o1⟩:=r59 (h:=g) (by rw [(O.trans Og).n0];exact hG) wr
  have O1:=Og.trans o1
  obtain ⟨g2,e2,o2⟩:=r59 (h:=g1) (by rw [(O.trans O1).n0];exact hG) wi
  have O2:=O1.trans o2
  have a6:bin Tryd.prog .add 3 (i64n a) (.int .i64 1)=some (i64n (a+1)):=add31 (by omega)
  simp -implicitDefEqProofs only [decide_eq_true ha, bt, guardK_true, ix, ld g Og, e1, y0, y5, ixi, ldi g1 (O.trans O1), e2, lss_key, ldi g (O.trans Og), chkRec wi, Bool.and_true, if_true, thenV_some, pu_some]
  by_cases hc:cmpK out[a] R[i]<0
  ·simp -implicitDefEqProofs only [decide_eq_true hc, a6, thenV_some, pu_some]
   refine Rnd.next (k-1) (by omega) ⟨a+1,by omega,y0,y4,y5,rfl,O2,fun j hj h => ?_⟩
   rcases Nat.lt_or_ge j a with h1|h1
   ·exact lo j hj h1
   ·have:j=a:=by omega
    subst this
    exact hc
  ·simp -implicitDefEqProofs only [decide_eq_false hc]
   exact Rnd.out 2 ⟨rfl,O2,y0,y4,y5,a,y6,by omega,lo,fun _=>hc⟩
 ·simp -implicitDefEqProofs only [decide_eq_false ha, bf', guardK_false, Bool.false_eq_true, if_false, chkJ, Bool.and_true, thenV_some]
  exact Rnd.out 2 ⟨rfl,Og,y0,y4,y5,a,y6,by omega,lo,fun h=>absurd h ha⟩
theorem ks_ins {out:List RecD} {r:RecD} {a:Nat} (ks:KS out) (ha:a≤out.length) (lo : ∀ j,(hj:j<out.length)→j<a→cmpK out[j] r<0) (hi : ∀ h:a<out.length,¬cmpK out[a] r<0) (un : ∀ x∈out,cmpK x r=0→x=r) :
  (∀ h:a<out.length,out[a]≠r)→KS (out.take a ++ [r]++out.drop a):=by
 intro hne
 unfold KS at *
 have h1:=ks
 rw [←List.take_append_drop a out,List.pairwise_append] at h1
 obtain ⟨k1,k2,k3⟩:=h1
 have lt1 : ∀ x∈out.take a,cmpK x r<0:=fun x hx=>by
  obtain ⟨j,hj,rfl⟩:=List.mem_iff_getElem.1 hx
  rw [List.length_take] at hj
  rw [List.getElem_take]
  exact lo j (by omega) (by omega)
 have lt2 : ∀ x∈out.drop a,cmpK r x<0:=fun x hx=>by
  obtain ⟨j,hj,rfl⟩:=List.mem_iff_getElem.1 hx
  rw [List.length_drop] at hj
  have hal:a<out.length:=by omega
  have h2:=hi hal
  have h3:cmpK out[a] r≠0:=fun e=>hne hal (un _ (List.getElem_mem hal) e)
  have h4:cmpK r out[a]<0:=by
   have:=cb_neg (keyU out[a]) (keyU r)
   unfold cmpK at *
   omega
  rw [List.getElem_drop]
  rcases Nat.eq_zero_or_pos j with rfl|hj0
  ·exact h4
  ·have h5:=ks_lt (R:=out) ks (i:=a) (j:=a+j) (by omega) (by omega)
   exact cb_trans _ _ _ h4 h5
 rw [List.pairwise_append]
 refine ⟨?_,k2,fun x hx y hy => ?_⟩
 ·rw [List.pairwise_append]
  exact ⟨k1,List.pairwise_singleton _ _,fun x hx y hy=>by rw [List.mem_singleton.1 hy];exact lt1 x hx⟩
 ·rcases List.mem_append.1 hx with h|h
  ·exact k3 x h y hy
  ·rw [List.mem_singleton.1 h]
   exact lt2 y hy
theorem vd_uniq {R:List RecD} {x r:RecD} (hx:x∈R) (hr:r∈R) (wx:x.Wf) (wr:r.Wf) (vx:recB x=true) (vr:recB r=true) (nx:R.any (vdQ x)=false) (nr:R.any (vdQ r)=false) (h:cmpK x r=0):x=r:=by
 have ha:=key_place wx wr vx vr h
 have ha':atB r x=true:=by rw [atB_comm];exact ha
 rw [List.any_eq_false] at nx nr
 have h1:=nx r hr
 have h2:=nr x hx
 unfold vdQ at h1 h2
 simp only [Bool.or_eq_true,not_or] at h1 h2
 have h1:=h1.1
 have h2:=h2.1
 rw [←newer_same wr wx] at h1
 rw [←newer_same wx wr] at h2
 unfold newerB at h1 h2
 simp only [vx,vr,ha,ha',Bool.true_and,decide_eq_true_eq] at h1 h2
 refine cmpR_eq ha ?_
 have:=cmpR_neg x r
 omega
theorem RLst.takeA {h:Heap} {N:Nat} {v:Value} {L:List RecD} (x:RLst h N v L) {j:Nat} (hj:j≤L.length) : ∃ v',slR 39 v none (some (i64n j)) none=some v'∧RcS h v' (L.take j):=by
 by_cases hL:L = []
 ·subst hL
  obtain rfl:j=0:=by rw [List.length_nil] at hj;omega
  obtain ⟨hw,b,s,rfl,g1,g2,g3⟩:=x
  rcases g3 with ⟨_,rfl⟩|⟨h,_⟩
  ·exact ⟨.slice (some ⟨b,0,none⟩) 0 0,rfl,RcS.of_blk (P := []) (fun _ h=>by cases h) rfl g1⟩
  ·exact absurd rfl h
 ·exact x.take hL hj
theorem RLst.dropA {h:Heap} {N:Nat} {v:Value} {L:List RecD} (x:RLst h N v L) {j:Nat} (hj:j≤L.length) : ∃ v',slR 39 v (some (i64n j)) none none=some v'∧RcS h v' (L.drop j):=by
 by_cases hL:L = []
 ·subst hL
  obtain rfl:j=0:=by rw [List.length_nil] at hj;omega
  obtain ⟨hw,b,s,rfl,g1,g2,g3⟩:=x
  rcases g3 with ⟨_,rfl⟩|⟨h,_⟩
  ·exact ⟨.slice (some ⟨b,0,none⟩) 0 0,rfl,RcS.of_blk (P := []) (fun _ h=>by cases h) rfl g1⟩
  ·exact absurd rfl h
 ·exact x.drop hL hj
end Go.Proofs.YtdnahgfgoajmcaaDoor

namespace Go.Proofs.YtdnahgfgoajmcaaDoor
open Go Go.Abs
open Go.Lib (compareBytes)
attribute [local congr] thenV_congr
structure NrmS (R:List RecD) (i:Nat) (out:List RecD):Prop where
 ks:KS out
 mem : ∀ x,x∈out↔x∈R.take i∧R.any (vdQ x)=false
 val : ∀ x∈R.take i,recB x=true
 len:out.length≤i
theorem mem_take_succ {R:List RecD} {i:Nat} (hi:i<R.length) (x:RecD):x∈R.take (i+1)↔x∈R.take i∨x=R[i]:=by
 rw [List.take_succ_eq_append_getElem hi,List.mem_append,List.mem_singleton]
theorem NrmS.void {R out:List RecD} {i:Nat} (s:NrmS R i out) (hi:i<R.length) (v:recB R[i]=true) (n:R.any (vdQ R[i])=true):NrmS R (i+1) out:=by
 refine ⟨s.ks,fun x => ?_,fun x hx => ?_,Nat.le_succ_of_le s.len⟩
 ·rw [s.mem,mem_take_succ hi]
  constructor
  ·rintro ⟨h1,h2⟩
   exact ⟨.inl h1,h2⟩
  ·rintro ⟨h1|rfl,h2⟩
   ·exact ⟨h1,h2⟩
   ·rw [n] at h2;cases h2
 ·rcases (mem_take_succ hi x).1 hx with h|rfl
  ·exact s.val x h
  ·exact v
theorem NrmS.same {R out:List RecD} {i:Nat} (s:NrmS R i out) (hi:i<R.length) (v:recB R[i]=true) (n:R.any (vdQ R[i])=false) (hm:R[i]∈out):NrmS R (i+1) out:=by
 refine ⟨s.ks,fun x => ?_,fun x hx => ?_,Nat.le_succ_of_le s.len⟩
 ·rw [mem_take_succ hi]
  constructor
  ·intro h
   have:=(s.mem x).1 h
   exact ⟨.inl this.1,this.2⟩
  ·rintro ⟨h1|rfl,h2⟩
   ·exact (s.mem x).2 ⟨h1,h2⟩
   ·exact hm
 ·rcases (mem_take_succ hi x).1 hx with h|rfl
  ·exact s.val x h
  ·exact v
theorem NrmS.ins {R out:List RecD} {i a:Nat} (s:NrmS R i out) (wf : ∀ x∈R,RecD.Wf x) (hi:i<R.length) (v:recB R[i]=true) (n:R.any (vdQ R[i])=false) (ha:a≤out.length) (lo : ∀ j,(hj:j<out.length)→j<a→cmpK out[j] R[i]<0) (hh : ∀ h:a<out.length,¬cmpK out[a] R[i]<0) (hne : ∀ h:a<out.length,out[a]≠R[i]) :
  NrmS R (i+1) (out.take a ++ [R[i]]++out.drop a):=by
 refine ⟨ks_ins s.ks ha lo hh (fun x hx e => ?_) hne,fun x => ?_,fun x hx => ?_,?_⟩
 ·have h1:=(s.mem x).1 hx
  have h2:=List.mem_of_mem_take h1.1
  exact vd_uniq h2 (List.getElem_mem hi) (wf _ h2) (wf _ (List.getElem_mem hi)) (s.val x h1.1) v h1.2 n e
 ·rw [mem_take_succ hi,List.append_assoc,List.mem_append,List.mem_append,List.mem_singleton]
  have h1:(x∈out.take a∨x∈out.drop a)↔x∈out:=by
   rw [←List.mem_append,List.take_append_drop]
  constructor
  ·rintro (h|rfl|h)
   ·have:=(s.mem x).1 (h1.1 (.inl h))
    exact ⟨.inl this.1,this.2⟩
   ·exact ⟨.inr rfl,n⟩
   ·have:=(s.mem x).1 (h1.1 (.inr h))
    exact ⟨.inl this.1,this.2⟩
  ·rintro ⟨h|rfl,h2⟩
   ·rcases h1.2 ((s.mem x).2 ⟨h,h2⟩) with q|q
    ·exact .inl q
    ·exact .inr (.inr q)
   ·exact .inr (.inl rfl)
 ·rcases (mem_take_succ hi x).1 hx with h|rfl
  ·exact s.val x h
  ·exact v
 ·have:=s.len
  rw [List.length_append,List.length_append,List.length_take,List.length_drop,List.length_singleton]
  omega
theorem ins_ok {g:Heap} {N:Nat} {w:Value} {out:List RecD} {r:RecD} {a:Nat} (rl:RLst g N w out) (wr:r.Wf) (ha:a≤out.length) (hl:out.length≤100000) :
  ∃ v1 v2 v4 g5 v7 g7 v8 g8,slR 39 w none (some (i64n a)) none=some v1∧slR 39 w (some (i64n a)) none none=some v2∧appendA 39 88 (.slice (some ⟨g.next,0,none⟩) 0 0) v1 (g.alloc [])=some (v4,g5)∧Old g g5 ∧
    appendA 39 88 v4 (.slice (some ⟨g5.next,0,none⟩) 1 1) (g5.alloc (recC r))=some (v7,g7)∧appendA 39 88 v7 v2 g7=some (v8,g8)∧Old g g8∧RLst g8 g.next v8 (out.take a ++ [r]++out.drop a):=by
 obtain ⟨v1,s1,rc1⟩:=rl.takeA ha
 obtain ⟨v2,s2,rc2⟩:=rl.dropA ha
 have n0:=g.n0_le_next
 have lt:(out.take a).length=a:=by rw [List.length_take];omega
 have ld:(out.drop a).length=out.length-a:=List.length_drop
 have o4:Old g (g.alloc []):=Kept.alloc _ _ _
 have r4:RLst (g.alloc []) g.next (.slice (some ⟨g.next,0,none⟩) 0 0) []:=⟨(fun _ h=>by cases h),g.next,none,rfl,by rw [Heap.get_alloc,if_pos rfl];rfl,Nat.le_refl _,.inl ⟨rfl,rfl⟩⟩
 obtain ⟨v4,g5,e5,r5,k5,_⟩:=r4.pushL (rc1.mono o4) (by rw [o4.n0];exact n0) o4.next (by decide) (by omega)
 have o5:Old g g5:=Old.of_new o4 k5 (Nat.le_refl _)
 rw [List.nil_append] at r5
 have o6:Old g5 (g5.alloc (recC r)):=Kept.alloc _ _ _
 have g6:(g5.alloc (recC r)).get g5.next=some (recC r):=by rw [Heap.get_alloc,if_pos rfl]
 obtain ⟨v7,g7,e7,r7,k7⟩:=(r5.old o6).push (c:=g5.next) (by rw [(o5.trans o6).n0];exact n0) (o5.trans o6).next wr (by omega) g6
 have o7:Old g g7:=Old.of_new (o5.trans o6) k7 r5.blk.1
 obtain ⟨v8,g8,e8,r8,k8,_⟩:=r7.pushL (rc2.mono o7) (by rw [o7.n0];exact n0) o7.next (by rw [List.length_append,List.length_singleton];omega) (by omega)
 exact ⟨v1,v2,v4,g5,v7,g7,v8,g8,s1,s2,e5,o5,e7,e8,Old.of_new o7 k8 r7.blk.1,r8⟩
set_option maxRecDepth 100000 in
set_option maxHeartbeats 1000000 in
theorem r52 {h:Heap} (hG:4≤h.n0) (hz:GZ h) {v:Value} {R:List RecD} (hv:RSl h v R) (hR:R.length≤100000) :
  ∃ w e h',CW 52 [v] h=some (.tuple #[w,.int .i64 e],h')∧Old h h'∧((invB R=true∧e=2)∨(invB R=false∧e=0 ∧ ∃ out,RLst h' h.next w out∧NrmS R R.length out)):=by
 have hll:=hv.len
 have wf:=hv.2.1
 have b0:=b0_recs h
 have o1:Old h (h.alloc []):=Kept.alloc _ _ _
 have r0:RLst (h.alloc []) h.next (.slice (some ⟨h.next,0,none⟩) 0 0) []:=⟨(fun _ h=>by cases h),h.next,none,rfl,by rw [Heap.get_alloc,if_pos rfl];rfl,Nat.le_refl _,.inl ⟨rfl,rfl⟩⟩
 generalize h.alloc []=h1 at *
 generalize Value.slice (some ⟨h.next,0,none⟩) 0 0=w0 at *
 have key : ∃ q:Out,t52 CW v h=q ∧ ∃ w e h',q=some (.tuple #[w,.int .i64 e],h')∧Old h h'∧((invB R=true∧e=2)∨(invB R=false∧e=0 ∧ ∃ out,RLst h' h.next w out∧NrmS R R.length out)):=by
  refine ⟨_,rfl,?_⟩
  unfold t52
  simp -implicitDefEqProofs only [b0, thenV_some]
  refine endL_fin (n:=76) (fin:=fun ex y g=>Old h g∧((ex = .exit 0 ∧ ∃ out,RLst g h.next (y 4) out∧NrmS R R.length out)∨(ex = .ret∧invB R=true∧y 3 = .int .i64 2)))
   (Q:=fun q:Out => ∃ w e h',q=some (.tuple #[w,.int .i64 e],h')∧Old h h'∧((invB R=true∧e=2)∨(invB R=false∧e=0 ∧ ∃ out,RLst h' h.next w out∧NrmS R R.length out)))
   (loop_fin (t52l52_11010_eq CW) (Inv:=fun k y g => ∃ i out,i+k=R.length∧y 0=v∧y 5=i64n i∧Old h g∧RLst g h.next (y 4) out∧NrmS R i out) ?_ R.length (by have:rounds=18446744073709551616:=rfl;omega) ⟨0,[],by omega,rfl,rfl,o1,r0,.nil,fun x=>by simp,fun x hx=>by simp at hx,Nat.le_refl _⟩) ?_
  ·rintro k y g ⟨i,out,hik,y0,y5,Og,rl,S⟩
   unfold t52l52_11010
   simp -implicitDefEqProofs only [y0,y5,hll,lss3,thenV_some,pu_some]
   by_cases hi:i<R.length
   ·obtain ⟨b,oo,ix,wr,ld⟩:=hv.rd hi
    obtain ⟨g1,e1,q1⟩:=r48 (h:=g) (by rw [Og.n0];exact hG) (hz.old Og) wr
    have O1:=Og.trans q1
    have a5:bin Tryd.prog .add 3 (i64n i) (.int .i64 1)=some (i64n (i+1)):=add31 (by omega)
    cases hval:recB R[i] with
    |false=>
     rw [hval] at e1
     simp -implicitDefEqProofs only [decide_eq_true hi, ix, ld g Og, e1, unA_not, Bool.not_false, thenV_some, pu_some]
     refine Rnd.ret ⟨O1,.inr ⟨rfl,?_,rfl⟩⟩
     unfold invB
     rw [List.any_eq_true]
     exact ⟨R[i],List.getElem_mem hi,by rw [hval];rfl⟩
    |true=>
     rw [hval] at e1
     obtain ⟨g2,e2,q2⟩:=r105 (h:=g1) (by rw [O1.n0];exact hG) (hz.old O1) wr (hv.mono O1) (by omega)
     have O2:=O1.trans q2
     simp -implicitDefEqProofs only [decide_eq_true hi, ix, ld g Og, e1, unA_not, Bool.not_true, ld g1 O1, e2, thenV_some, pu_some]
     have rl2:=rl.old (q1.trans q2)
     cases hn:R.any (vdQ R[i]) with
     |true=>
      simp -implicitDefEqProofs only [a5, thenV_some, pu_some]
      exact Rnd.next (k-1) (by omega) ⟨i+1,out,by omega,y0,rfl,O2,rl2,S.void hi hval hn⟩
     |false=>
      simp -implicitDefEqProofs only []
      refine endL_fin (nl_in hG O2 hv hi rl2 (by have:=S.len;omega) (by first|rfl|exact y0) rfl (by first|rfl|exact y5) rfl) ?_
      rintro ex z g3 ⟨rfl,q3,z0,z4,z5,a,z6,ha,lo,hh⟩
      have O3:=O2.trans q3
      have z4:z 4=y 4:=z4
      have rl3:=rl2.old q3
      have hol:=rl3.rcs.rsl.len
      simp -implicitDefEqProofs only [endL_exit,b52_17e,t52k52_16_eq]
      unfold t52k52_16
      simp -implicitDefEqProofs only [z6,z4,hol,lss3,thenV_some,pu_some]
      have hS:=S.len
      obtain ⟨v1,v2,v4,g5,v7,g7,v8,g8,s1,s2,e5,o5,e7,e8,o8,r8⟩:=ins_ok rl3 wr ha (by omega)
      have b0':=b0_recs g3
      have br:=bsl_rec wr g5
      have fin8 : ∀ (x':Nat→Value) (q:Heap) (out':List RecD),x' 0=v→x' 5=i64n i→Old h q→RLst q h.next (x' 4) out'→NrmS R (i+1) out' →
        Rnd 76 (fun k y g => ∃ i out,i+k=R.length∧y 0=v∧y 5=i64n i∧Old h g∧RLst g h.next (y 4) out∧NrmS R i out) (fun ex y g=>Old h g∧((ex = .exit 0 ∧ ∃ out,RLst g h.next (y 4) out∧NrmS R R.length out)∨(ex = .ret∧invB R=true∧y 3 = .int .i64 2))) k (t52k52_8 CW x' q):=by
       intro x' q out' x0 x5 oq rq sq
       unfold t52k52_8
       simp -implicitDefEqProofs only [x5,a5,thenV_some,pu_some]
       exact Rnd.next (k-1) (by omega) ⟨i+1,out',by omega,x0,rfl,oq,rq,sq⟩
      by_cases hal:a<out.length
      ·obtain ⟨bo,oo',ixo,wo,ldo⟩:=rl3.rcs.rsl.rd hal
       by_cases he:out[a]=R[i]
       ·simp -implicitDefEqProofs only [decide_eq_true hal, bt, guardK_true, ixo, ldo g3 (Kept.refl _ _), z0, z5, ix, ld g3 O3, eq_rec wo wr, decide_eq_true he, if_true, b52_9e, t52k52_8_eq, thenV_some, pu_some]
        refine fin8 _ _ out ?_ ?_ O3 ?_ (S.same hi hval hn (he▸List.getElem_mem hal))
        ·exact z0
        ·exact z5
        ·show RLst g3 h.next (z 4) out
         rw [z4]
         exact rl3
       ·simp -implicitDefEqProofs only [decide_eq_true hal, bt, guardK_true, ixo, ldo g3 (Kept.refl _ _), z0, z5, ix, ld g3 O3, eq_rec wo wr, decide_eq_false he, if_true, s1, s2, b0', e5, br, e7, e8, ld g5 (O3.trans o5), chkRec wr, Bool.and_true, t52k52_8_eq, thenV_some, pu_some]
        refine fin8 _ _ _ ?_ ?_ (O3.trans o8) ?_ (S.ins wf hi hval hn ha lo hh fun _=>he)
        ·exact z0
        ·exact z5
        ·exact r8.weak O3.next
      ·simp -implicitDefEqProofs only [decide_eq_false hal, bf', guardK_false, Bool.false_eq_true, if_false, z0, z5, ix, ld g3 O3, s1, s2, b0', e5, br, e7, e8, ld g5 (O3.trans o5), chkRec wr, Bool.and_true, t52k52_8_eq, thenV_some, pu_some]
       refine fin8 _ _ _ ?_ ?_ (O3.trans o8) ?_ (S.ins wf hi hval hn ha lo hh fun h=>absurd h hal)
       ·exact z0
       ·exact z5
       ·exact r8.weak O3.next
   ·have hE:i=R.length:=by omega
    subst hE
    simp -implicitDefEqProofs only [decide_eq_false hi]
    exact Rnd.out 0 ⟨Og,.inl ⟨rfl,out,rl,S⟩⟩
  ·rintro ex z g ⟨Og,⟨rfl,out,rl,S⟩|⟨rfl,q,z3⟩⟩
   ·simp -implicitDefEqProofs only [endL_exit,b52_4e,t52k52_2_eq]
    unfold t52k52_2
    refine ⟨z 4,0,g,rfl,Og,.inr ⟨?_,rfl,out,rl,S⟩⟩
    unfold invB
    rw [List.any_eq_false]
    intro x hx
    rw [S.val x (by rw [List.take_length];exact hx)]
    decide
   ·rw [endL_ret]
    refine ⟨z 2,2,g,?_,Og,.inl ⟨q,rfl⟩⟩
    rw [res_two results52 (by decide) (by decide),z3]
 obtain ⟨q,e,w,ee,h',e',oo⟩:=key
 exact ⟨w,ee,h',CW_body is52 hG rfl ((t52_eq _ _ _).trans (e.trans e')),oo⟩
theorem vd_nf {L:List RecD} (v:Vld L) (x:RecD):(x∈L∧L.any (vdQ x)=false)↔Nf L x:=by
 constructor
 ·rintro ⟨hx,h⟩
  rw [List.any_eq_false] at h
  refine ⟨⟨hx,fun y hy ha => ?_⟩,?_⟩
  ·have h1:=h y hy
   unfold vdQ at h1
   simp only [Bool.or_eq_true,not_or] at h1
   have h1:=h1.1
   rw [←newer_same (v y hy).1 (v x hx).1] at h1
   unfold newerB at h1
   rw [atB_comm] at ha
   simp only [(v y hy).2,(v x hx).2,ha,Bool.true_and,decide_eq_true_eq] at h1
   omega
  ·rintro ⟨hk,⟨y,hy,h1,h2⟩|⟨y,hy,h1,h2,h3⟩⟩
   ·exact h y hy (by unfold vdQ;simp [hk,h1,h2])
   ·exact h y hy (by unfold vdQ;simp [hk,h1,h2,h3])
 ·rintro ⟨⟨hx,ht⟩,hv⟩
  refine ⟨hx,?_⟩
  rw [List.any_eq_false]
  intro y hy hq
  unfold vdQ at hq
  simp only [Bool.or_eq_true,Bool.and_eq_true,decide_eq_true_eq] at hq
  rcases hq with hq|⟨⟨⟨h1,h2⟩,h3⟩,h4⟩|⟨⟨h1,h2⟩,h3⟩
  ·rw [←newer_same (v y hy).1 (v x hx).1] at hq
   unfold newerB at hq
   simp only [Bool.and_eq_true,decide_eq_true_eq] at hq
   have:=ht y hy (by rw [atB_comm];exact hq.2.2.1)
   omega
  ·exact hv ⟨h1,.inr ⟨y,hy,h2,h3,h4⟩⟩
  ·exact hv ⟨h1,.inl ⟨y,hy,h2,h3⟩⟩
theorem nrm_merged {A B out:List RecD} (v:Vld (A++B)) (s:NrmS (A++B) (A++B).length out):out=merged A B:=by
 refine s.ks.ext (merged_wf v).2 fun x => ?_
 rw [s.mem,List.take_length,merged_mem v]
 exact vd_nf v x
theorem neq26 (n:Int):bin Tryd.prog .neq 26 (.int .i64 n) (.int .i64 0)=some (.bool (!(decide (n=0)))):=by
 rw [bin_neq]
 congr 2
theorem neq26z:bin Tryd.prog .neq 26 (.int .i64 0) (.int .i64 0)=some (.bool false):=by rw [neq26];rfl
theorem r16 {h:Heap} (hG:4≤h.n0) (hz:GZ h) {v w:Value} {A B:List RecD} (hv:RcS h v A) (hw:RcS h w B) (vA:Vld A) (hA:A.length≤50000) (hB:B.length≤50000) :
  ∃ x e h',CW 16 [v,w] h=some (.tuple #[x,.int .i64 e],h')∧Old h h'∧((invB B=true∧e=2∧x=v)∨(invB B=false∧e=0∧RLst h' h.next x (merged A B))):=by
 have b0:=b0_recs h
 have o1:Old h (h.alloc []):=Kept.alloc _ _ _
 have n0:=h.n0_le_next
 have r0:RLst (h.alloc []) h.next (.slice (some ⟨h.next,0,none⟩) 0 0) []:=⟨(fun _ h=>by cases h),h.next,none,rfl,by rw [Heap.get_alloc,if_pos rfl];rfl,Nat.le_refl _,.inl ⟨rfl,rfl⟩⟩
 obtain ⟨v2,h2,e2,r2,k2,_⟩:=r0.pushL (hv.mono o1) (by rw [o1.n0];exact n0) o1.next (by decide) (by omega)
 have O2:Old h h2:=Old.of_new o1 k2 (Nat.le_refl _)
 rw [List.nil_append] at r2
 obtain ⟨v3,h3,e3,r3,k3,_⟩:=r2.pushL (hw.mono O2) (by rw [O2.n0];exact n0) O2.next (by omega) (by omega)
 have O3:Old h h3:=Old.of_new O2 k3 r2.blk.1
 obtain ⟨x,e,h4,e4,O4,q⟩:=r52 (h:=h3) (by rw [O3.n0];exact hG) (hz.old O3) r3.rcs.rsl (by rw [List.length_append];omega)
 have x0:extractA (.tuple #[x,.int .i64 e]) 0=some x:=rfl
 have x1:extractA (.tuple #[x,.int .i64 e]) 1=some (.int .i64 e):=rfl
 have inv:invB (A++B)=invB B:=by
  unfold invB
  rw [List.any_append,Bool.or_eq_right_iff_imp]
  intro h
  rw [List.any_eq_true] at h
  obtain ⟨r,hr,hq⟩:=h
  rw [(vA r hr).2] at hq
  cases hq
 rw [inv] at q
 rcases q with ⟨q1,rfl⟩|⟨q1,rfl,out,q2,q3⟩
 ·refine ⟨v,2,h4,CW_body is16 hG rfl ((t16_eq _ _ _ _).trans ?_),O3.trans O4,.inl ⟨q1,rfl,rfl⟩⟩
  unfold t16
  simp -implicitDefEqProofs only [b0,e2,e3,e4,x0,x1,neq26,decide_eq_false (show ¬(2:Int)=0 by decide),Bool.not_false,thenV_some,pu_some]
 ·have vAB:Vld (A++B):=fun r hr=>by
   rcases List.mem_append.1 hr with h1|h1
   ·exact vA r h1
   ·exact ⟨hw.1 r h1,invB_false q1 r h1⟩
  refine ⟨x,0,h4,CW_body is16 hG rfl ((t16_eq _ _ _ _).trans ?_),O3.trans O4,.inr ⟨q1,rfl,?_⟩⟩
  ·unfold t16
   simp -implicitDefEqProofs only [b0,e2,e3,e4,x0,x1,neq26z,thenV_some,pu_some]
  ·rw [←nrm_merged vAB q3]
   exact q2.weak O3.next
end Go.Proofs.YtdnahgfgoajmcaaDoor

namespace Go.Proofs.YtdnahgfgoajmcaaDoor
open Go Go.Abs
attribute [local congr] thenV_congr
theorem is37:IsFn Tryd.prog 37 Tryd.f37:=⟨by kernel_rfl,by kernel_rfl,by kernel_rfl,by kernel_rfl⟩
theorem eql32 (a:Nat):bin Tryd.prog .eql 32 (.int .u64 (a:Int)) (.int .u64 (a:Int))=some (.bool true):=by rw [bin_eql];simp
theorem eqlB (b:Bool):bin Tryd.prog .eql 4 (.bool b) (.bool b)=some (.bool true):=by cases b<;>kernel_rfl
theorem eqlI (n:Int):bin Tryd.prog .eql 3 (.int .i64 n) (.int .i64 n)=some (.bool true):=by rw [eqI,decide_eq_true rfl]
theorem look_wf {R:List RecD} (hw : ∀ r∈R,RecD.Wf r) (q:RecD→Bool):((R.find? q).getD RecD.z).Wf:=by
 cases h:R.find? q with
 |none=>exact RecD.z_wf
 |some r=>exact hw r (List.mem_of_find?_eq_some h)
theorem eqRR {r:RecD} (w:r.Wf):bin Tryd.prog .eql 58 (recV r) (recV r)=some (.bool true):=by rw [eq_rec w w,decide_eq_true rfl]
set_option maxRecDepth 100000 in
theorem r37 {h:Heap} (hG:4≤h.n0) {a:Nat} {S:List RecD} (I:IvH h a S) {w:Value} (hw:RSl h w S) (hS:S.length≤100000) {o:List Nat} (ho:D32 o) (n:Int) :
  ∃ h',CW 37 [ptr a 0,w,.agg (u8s o).toArray,.int .i64 n] h=some (.bool true,h')∧Old h h':=by
 have dc:=dig_cells ho
 have b1:=box_at h (u8s o) dc.2.2
 have o1:Old h (h.alloc (u8s o)):=Kept.alloc _ _ _
 have g1:(h.alloc (u8s o)).get h.next=some (u8s o):=by rw [Heap.get_alloc,if_pos rfl]
 generalize h.alloc (u8s o)=h1 at *
 have L6 : ∀ g,Old h1 g→ldN 32 (ptr h.next 0) g=some (.agg (u8s o).toArray,g):=fun g og=>ldN_all (Old.get og g1) dc.1 dc.2.1
 have n1:4≤h1.n0:=by rw [o1.n0];exact hG
 obtain ⟨va,gv,rv,nv⟩:=I.ex
 have GV : ∀ g,Old h1 g→g.get a=some [va]:=fun g og=>Old.get (o1.trans og) gv
 have RV : ∀ g,Old h1 g→RSl g va S:=fun g og=>(rv.mono (o1.trans og)).rsl
 have RW : ∀ g,Old h1 g→RSl g w S:=fun g og=>hw.mono (o1.trans og)
 have N : ∀ g,Old h1 g→4≤g.n0:=fun g og=>by rw [og.n0];exact n1
 have wl:=look_wf hw.2.1 (lookQ o n)
 have R73:=r73 n1 (GV h1 (Kept.refl _ _)) (RV h1 (Kept.refl _ _)) I.ks I.vld (by omega) ho n
 have R74:=fun g (og:Old h1 g)=>r74 (N g og) (RW g og) (by omega) ho n
 have R75:=fun g (og:Old h1 g)=>r75 (N g og) (GV g og) (RV g og) nv hS ho
 have R76:=fun g (og:Old h1 g)=>r76 (N g og) (RW g og) (by omega) ho
 have R29:=fun g (og:Old h1 g)=>r29 (N g og) (GV g og) (RV g og) nv (by omega) n
 have R77:=fun g (og:Old h1 g)=>r77 (N g og) (RW g og) (by omega) n
 have R28:=fun g (og:Old h1 g)=>r28 (N g og) (GV g og) (RV g og) nv (by omega) ho
 have R78:=fun g (og:Old h1 g)=>r78 (N g og) (RW g og) (by omega) ho
 have R51:=fun g (og:Old h1 g)=>r51 (N g og) (GV g og) (RV g og) nv hS ho
 have R80:=fun g (og:Old h1 g)=>r80 (N g og) (RW g og) hS ho
 generalize (S.find? (lookQ o n)).getD RecD.z=rl at *
 generalize (S.find? (lookQ o n)).isSome=bl at *
 generalize ((S.find? (heldQ o)).getD RecD.z).k=dk at *
 generalize ((S.find? (heldQ o)).getD RecD.z).n=dn at *
 generalize baseN S n=bn at *
 generalize buriedB S o=bb at *
 have hfl:(S.filter (heldQ o)).length≤1000000:=by
  have:=List.length_filter_le (heldQ o) S
  omega
 have hfm:((S.filter (heldQ o)).map (·.holder)).length=(S.filter (heldQ o)).length:=List.length_map _
 rw [←hfm] at R51 R80 hfl
 generalize (S.filter (heldQ o)).map (·.holder)=hs at *
 have x0:extractA (.tuple #[recV rl,.bool bl]) 0=some (recV rl):=rfl
 have x1:extractA (.tuple #[recV rl,.bool bl]) 1=some (.bool bl):=rfl
 have y0:extractA (.tuple #[.int .i64 dk,.int .i64 dn]) 0=some (.int .i64 dk):=rfl
 have y1:extractA (.tuple #[.int .i64 dk,.int .i64 dn]) 1=some (.int .i64 dn):=rfl
 obtain ⟨h2,e2,o2⟩:=R73
 obtain ⟨h3,h4,e3,e4,o4,g4⟩:=rec_var h2 wl
 have O4:=o2.trans o4
 obtain ⟨h5,e5,o5⟩:=R74 h4 O4
 obtain ⟨h6,h7,e6,e7,o7,g7⟩:=rec_var h5 wl
 have O5:=O4.trans o5
 have O7:=O5.trans o7
 obtain ⟨h8,e8,o8⟩:=R75 h7 O7
 have O8:=O7.trans o8
 obtain ⟨h9,e9,o9⟩:=R76 h8 O8
 have O9:=O8.trans o9
 have LA : ∀ g,Old h4 g→ldN 39 (ptr h2.next 0) g=some (recV rl,g):=fun g og=>ldN_all (Old.get og g4) (rec_cells wl).1 (rec_cells wl).2.1
 have LB : ∀ g,Old h7 g→ldN 39 (ptr h5.next 0) g=some (recV rl,g):=fun g og=>ldN_all (Old.get og g7) (rec_cells wl).1 (rec_cells wl).2.1
 obtain ⟨h10,e10,o10⟩:=R29 h9 O9
 have O10:=O9.trans o10
 have e11:=R77 h10 O10
 obtain ⟨h12,e12,o12⟩:=R28 h10 O10
 have O12:=O10.trans o12
 obtain ⟨h13,e13,o13⟩:=R78 h12 O12
 have O13:=O12.trans o13
 obtain ⟨w14,h14,e14,o14,G14⟩:=R51 h13 O13
 have O14:=O13.trans o14
 obtain ⟨w15,h15,e15,o15,G15⟩:=R80 h14 O14
 have O15:=O14.trans o15
 have e16:=r79 (N h15 O15) (G14.old o15) G15 hfl
 rw [decide_eq_true rfl] at e16
 have ck : ∀ g,chkR true (some (.agg (u8s o).toArray,g)) (.agg (u8s o).toArray)=true:=fun g=>chk_agg _ _ (dig_typed ho).kinds
 refine ⟨h15,CW_body is37 hG rfl ((t37_eq _ _ _ _ _ _).trans ?_),o1.trans O15⟩
 unfold t37
 simp -implicitDefEqProofs only [b1,L6 h1 (Kept.refl _ _),e2,x0,x1,e3,e4,L6 h4 O4,e5,e6,e7,L6 h7 O7,e8,y0,y1,L6 h8 O8,e9,LA h9 (((o5.trans o7).trans o8).trans o9),LB h9 (o8.trans o9),eqRR wl,bt,guardK_true,eqlB,eqlI,eql32,if_true,e10,e11,L6 h10 O10,e12,L6 h12 O12,e13,L6 h13 O13,e14,L6 h14 O14,e15,e16,ck,Bool.and_true,thenV_some,pu_some]
end Go.Proofs.YtdnahgfgoajmcaaDoor

namespace Go.Proofs.YtdnahgfgoajmcaaDoor
open Go Go.Abs
attribute [local congr] thenV_congr
theorem is7:IsFn Tryd.prog 7 Tryd.f7:=⟨by kernel_rfl,by kernel_rfl,by kernel_rfl,by kernel_rfl⟩
theorem results7:Tryd.f7.results.toList = [.tmp 2]:=by kernel_rfl
theorem b7_11e (C:CallF) (e:Env) (h:Heap):b7_11 C 0 e h=k7_9 C e h:=rfl
theorem b7_28e (C:CallF) (e:Env) (h:Heap):b7_28 C 2 e h=k7_15 C e h:=rfl
theorem r25E {h:Heap} {vb:Nat} {v:Value} {L R:List RecD} (I:IvH h vb L) (x:RSl h v R) (vr:invB R=true) (hL:L.length≤500000) (hR:R.length≤500000):CV 25 [ptr vb 0,v] h=some (.int .i64 2,h):=by
 obtain ⟨va,gv,ra,na⟩:=I.ex
 have ok:MrgOk [ptr vb 0,v] h vb va L v R:=⟨rfl,I.n0,gv,ra.rsl,x,I.vld,hL,hR⟩
 have e:=s25_eq ok
 rw [if_pos vr] at e
 exact CC2_known e
set_option maxRecDepth 100000 in
theorem mg_in {h0 g0:Heap} (hG:4≤h0.n0) (O:Old h0 g0) {a:Nat} {v w:Value} {Ls:List (List RecD)} (hv:LLS h0 v Ls) {S:List RecD} (I:IvH g0 a S) (hw:RSl g0 w S) (hS:S.length≤100000) {i:Nat} (hi:i<Ls.length) (hl:Ls[i].length≤1000000)
  {x:Nat→Value} (x0:x 0=v) (x3:x 3=ptr a 0) (x4:x 4=w) (x5:x 5=i64n i) (x10:x 10=i64n 0) :
  Fin 107 (fun ex y g=>ex = .exit 2∧Old g0 g∧y 0=v∧y 3=ptr a 0∧y 4=w∧y 5=i64n i) (iter (codeA Tryd.prog CV (partOf Tryd.f7 [1,1,1,1,1,0,1,0,0,1,0,0,1,1,1,1,1,1,1,0,0])) rounds (mkF 107 x) g0):=by
 obtain ⟨b,o,wl,ix,hb,hld,R⟩:=hv.2 i hi
 have ld : ∀ q,Old h0 q→ld1 (ptr b o) q=some (wl,q):=fun q oq=>hld q (Kept.get oq b hb (fun h=>h))
 have hll:=R.rsl.len
 refine loop_fin (t7l7_11111010010011111110_eq CV) (Inv:=fun k y g => ∃ j,j+k=Ls[i].length∧y 0=v∧y 3=ptr a 0∧y 4=w∧y 5=i64n i∧y 10=i64n j∧Old g0 g) ?_ Ls[i].length (by have:rounds=18446744073709551616:=rfl;omega) ⟨0,by omega,x0,x3,x4,x5,x10,Kept.refl _ _⟩
 rintro k y g ⟨j,hjk,y0,y3,y4,y5,y10,Og⟩
 have Oh:=O.trans Og
 unfold t7l7_11111010010011111110
 simp -implicitDefEqProofs only [y0,y5,y10,ix,ld g Oh,hll,lss3,thenV_some,pu_some]
 by_cases hj:j<Ls[i].length
 ·obtain ⟨b',o',ix',wr,ldp⟩:=R.rsl.parts hj
  obtain ⟨_,p0,p1,p33,_⟩:=ldp g Oh
  obtain ⟨g1,e1,o1⟩:=r37 (h:=g) (by rw [Oh.n0];exact hG) (I.old Og) (hw.mono Og) hS wr.obj Ls[i][j].holder
  have e1:=CV_up (f:=37) rfl (by decide) e1
  have a10:bin Tryd.prog .add 3 (i64n j) (.int .i64 1)=some (i64n (j+1)):=add31 (by omega)
  simp -implicitDefEqProofs only [decide_eq_true hj, y3, y4, ld g Oh, ix', addP_ptr, p1, p33, e1, unA_not, Bool.not_true, a10, thenV_some, pu_some]
  exact Rnd.next (k-1) (by omega) ⟨j+1,by omega,y0,y3,y4,y5,rfl,Og.trans o1⟩
 ·simp -implicitDefEqProofs only [decide_eq_false hj]
  exact Rnd.out 2 ⟨rfl,Og,y0,y3,y4,y5⟩
set_option maxRecDepth 100000 in
set_option maxHeartbeats 2000000 in
theorem mg_loop {h0 g0:Heap} (hG:4≤h0.n0) (hz:GZ h0) (h3:h0.get 3=some roundsL) (O:Old h0 g0) {a:Nat} {v w:Value} {Ls:List (List RecD)} (hv:LLS h0 v Ls) (hL:Ls.length≤12) (I:IvH g0 a []) (ha:h0.next≤a) (hw:RcS g0 w [])
  {x:Nat→Value} (x0:x 0=v) (x3:x 3=ptr a 0) (x4:x 4=w) (x5:x 5=i64n 0) :
  Fin 107 (fun ex y g=>Old h0 g∧(ex = .exit 0∨(ex = .ret∧y 2 = .bool true))) (iter (codeA Tryd.prog CV (partOf Tryd.f7 [1,1,1,1,1,0,1,0,0])) rounds (mkF 107 x) g0):=by
 have hll:=hv.len
 refine loop_fin (t7l7_11111010_eq CV) (Inv:=fun k y g => ∃ i S,i+k=Ls.length∧y 0=v∧y 3=ptr a 0∧y 5=i64n i∧Old h0 g∧IvH g a S∧RcS g (y 4) S∧S.length≤40*i) ?_ Ls.length (by have:rounds=18446744073709551616:=rfl;omega) ⟨0,[],by omega,x0,x3,x5,O,I,by rw [x4];exact hw,Nat.le_refl _⟩
 rintro k y g ⟨i,S,hik,y0,y3,y5,Og,Ig,Wg,hS⟩
 unfold t7l7_11111010
 simp -implicitDefEqProofs only [y0,y5,hll,lss3,thenV_some,pu_some]
 by_cases hi:i<Ls.length
 ·obtain ⟨b,o,wl,ix,hb,hld,R⟩:=hv.2 i hi
  have hn:4≤g.n0:=by rw [Og.n0];exact hG
  have ld : ∀ q,Old h0 q→ld1 (ptr b o) q=some (wl,q):=fun q oq=>hld q (Kept.get oq b hb (fun h=>h))
  have lwl:=R.rsl.len
  simp -implicitDefEqProofs only [decide_eq_true hi,ix,ld g Og,lwl,gtrC Ls[i].length 40 40 rfl,thenV_some,pu_some]
  by_cases h40:40<Ls[i].length
  ·have e14:CV 14 [] g=some (.bool true,g):=r14V (Old.get Og h3)
   simp -implicitDefEqProofs only [decide_eq_true h40, e14, thenV_some]
   exact Rnd.ret ⟨Og,.inr ⟨rfl,rfl⟩⟩
  ·obtain ⟨v2,g2,e2,o2,r2⟩:=r26L hn (R.mono Og) (by omega)
   have e2:=CV_up (f:=26) rfl (by decide) e2
   have I2:=Ig.old o2
   have W2:=Wg.mono o2
   have O2:=Og.trans o2
   obtain ⟨wc,hc⟩:=I2.cell
   have both : ∃ e T g3 g4 w4,CV 25 [ptr a 0,v2] g2=some (.int .i64 e,g3)∧CV 16 [y 4,wl] g3=some (.tuple #[w4,.int .i64 e],g4)∧Old h0 g3∧Old h0 g4∧IvH g4 a T∧RcS g4 w4 T∧RSl g4 v2 Ls[i]∧T.length≤40*(i+1):=by
    cases hv':invB Ls[i] with
    |true=>
     have e3:=r25E I2 r2.rcs.rsl hv' (by omega) (by omega)
     obtain ⟨w4,e,g4,e4,o4,q⟩:=r16 (h:=g2) (by rw [O2.n0];exact hG) (hz.old O2) W2 (R.mono O2) Ig.vld (by omega) (by omega)
     have e4:=CV_up (f:=16) rfl (by decide) e4
     rcases q with ⟨_,rfl,rfl⟩|⟨q,_⟩
     ·exact ⟨2,S,g2,g4,_,e3,e4,O2,O2.trans o4,I2.old o4,W2.mono o4,(r2.old o4).rcs.rsl,by omega⟩
     ·rw [hv'] at q;cases q
    |false=>
     obtain ⟨g3,e3,I3,k3⟩:=r25 I2 r2.rcs.rsl (invB_false hv') (by omega) (by omega)
     have O3:Old h0 g3:=O2.also k3 (fun d hd q=>by omega)
     obtain ⟨w4,e,g4,e4,o4,q⟩:=r16 (h:=g3) (by rw [O3.n0];exact hG) (hz.old O3) (W2.keepC k3 hc) (R.mono O3) Ig.vld (by omega) (by omega)
     have e4:=CV_up (f:=16) rfl (by decide) e4
     have ml:=merged_len S Ls[i]
     rcases q with ⟨q,_⟩|⟨_,rfl,q⟩
     ·rw [hv'] at q;cases q
     ·exact ⟨0,_,g3,g4,w4,e3,e4,O3,O3.trans o4,I3.old o4,q.rcs,((r2.keep2 k3 hc).old o4).rcs.rsl,by omega⟩
   obtain ⟨e,T,g3,g4,w4,e3,e4,O3,O4,I4,W4,r4,hT⟩:=both
   have x0':extractA (.tuple #[w4,.int .i64 e]) 0=some w4:=rfl
   have x1':extractA (.tuple #[w4,.int .i64 e]) 1=some (.int .i64 e):=rfl
   have N : ∀ q,Old g4 q→4≤q.n0:=fun q oq=>by rw [(O4.trans oq).n0];exact hG
   have e5:=CV_up (f:=19) rfl (by decide) (r19 (N g4 (Kept.refl _ _)) r4 (R.mono O4).rsl (by omega))
   rw [decide_eq_true rfl] at e5
   obtain ⟨va,gv,rv,nv⟩:=I4.ex
   obtain ⟨w6,g6,e6,o6,r6⟩:=r23 (N g4 (Kept.refl _ _)) gv rv nv (by omega)
   have e6:=CV_up (f:=23) rfl (by decide) e6
   have e7:=CV_up (f:=19) rfl (by decide) (r19 (N g6 o6) r6 (W4.mono o6).rsl (by omega))
   rw [decide_eq_true rfl] at e7
   obtain ⟨w8,g8,e8,o8,G8,D8⟩:=r35 (N g6 o6) (Old.get o6 gv) (rv.mono o6).rsl nv (by omega)
   have e8:=CV_up (f:=35) rfl (by decide) e8
   have O8:=o6.trans o8
   obtain ⟨w9,g9,e9,o9,G9⟩:=r36 (N g8 O8) (W4.mono O8).rsl (by omega)
   have e9:=CV_up (f:=36) rfl (by decide) e9
   have O9:=O8.trans o9
   have hob:(objsV T).length≤1000000:=by
    rw [objsV_eq]
    have:=objG_len T []
    rw [List.length_nil] at this
    omega
   have e10:=CV_up (f:=34) rfl (by decide) (r34 (N g9 O9) (G8.old o9) G9 D8 D8 hob)
   rw [decide_eq_true rfl] at e10
   simp -implicitDefEqProofs only [decide_eq_false h40, y3, ix, e2, e3, ld g3 O3, e4, x0', x1', nqE, bf, guardK_true, Bool.false_eq_true, if_false, ld g4 O4, e5, unA_not, Bool.not_true, e6, e7, e8, e9, e10, thenV_some, pu_some]
   refine endL_fin (mg_in hG (O4.trans O9) hv (I4.old O9) (W4.mono O9).rsl (by omega) hi (by omega) (by first|rfl|exact y0) (by first|rfl|exact y3) rfl (by first|rfl|exact y5) rfl) ?_
   rintro ex z g10 ⟨rfl,O10,z0,z3,z4,z5⟩
   have OE:=O9.trans O10
   simp -implicitDefEqProofs only [endL_exit,b7_28e,t7k7_15_eq]
   unfold t7k7_15
   have a5:bin Tryd.prog .add 3 (i64n i) (.int .i64 1)=some (i64n (i+1)):=add31 (by omega)
   simp -implicitDefEqProofs only [z5,a5,thenV_some,pu_some]
   exact Rnd.next (k-1) (by omega) ⟨i+1,T,by omega,z0,z3,rfl,O4.trans OE,I4.old OE,by
    show RcS g10 (z 4) T
    rw [z4]
    exact W4.mono OE,hT⟩
 ·simp -implicitDefEqProofs only [decide_eq_false hi]
  exact Rnd.out 0 ⟨Og,.inl rfl⟩
set_option maxRecDepth 100000 in
theorem r7 {h:Heap} (hG:4≤h.n0) (hr:h.get 3=some roundsL) (hz:GZ h) {v:Value} {Ls:List (List RecD)} (hv:LLS h v Ls) : ∃ h',CV 7 [v] h=some (.bool true,h'):=by
 have hll:=hv.len
 have key : ∃ out:Out,t7 CV v h=out ∧ ∃ h',out=some (.bool true,h'):=by
  refine ⟨_,rfl,?_⟩
  unfold t7
  simp -implicitDefEqProofs only [hll,gtrC Ls.length 12 12 rfl,thenV_some,pu_some]
  by_cases hn:12<Ls.length
  ·simp -implicitDefEqProofs only [decide_eq_true hn,r14V hr,thenV_some]
   exact ⟨h,rfl⟩
  ·have e1:=CV_up (f:=33) rfl (by decide) (r33 hG)
   have o1:Old h (h.alloc [.slice none 0 0]):=Kept.alloc _ _ _
   have i1:IvH (h.alloc [.slice none 0 0]) h.next []:=⟨h.n0_le_next,⟨.slice none 0 0,by rw [Heap.get_alloc,if_pos rfl],nil_rcs _,.inl rfl⟩,(fun _ h=>by cases h),.nil⟩
   generalize h.alloc [.slice none 0 0]=h1 at *
   have b0:=b0_recs h1
   have o2:Old h1 (h1.alloc []):=Kept.alloc _ _ _
   have W2:RcS (h1.alloc []) (.slice (some ⟨h1.next,0,none⟩) 0 0) []:=RcS.of_blk (P := []) (fun _ h=>by cases h) rfl (by rw [Heap.get_alloc,if_pos rfl];rfl)
   generalize h1.alloc []=h2 at *
   simp -implicitDefEqProofs only [decide_eq_false hn,e1,nil25,b0,thenV_some,pu_some]
   refine endL_fin (Q:=fun o:Out => ∃ h',o=some (.bool true,h')) (mg_loop hG hz hr (o1.trans o2) hv (by omega) (i1.old o2) (Nat.le_refl _) W2 rfl rfl rfl rfl) ?_
   rintro ex z g ⟨Og,rfl|⟨rfl,z2⟩⟩
   ·simp -implicitDefEqProofs only [endL_exit,b7_11e,t7k7_9_eq]
    unfold t7k7_9
    have e14:CV 14 [] g=some (.bool true,g):=r14V (Old.get Og hr)
    simp -implicitDefEqProofs only [e14,thenV_some]
    exact ⟨g,rfl⟩
   ·rw [endL_ret,res_one results7 (by decide),z2]
    exact ⟨g,rfl⟩
 obtain ⟨q,e,h',e'⟩:=key
 exact ⟨h',CV_body is7 hG (by decide) (by decide) ((t7_eq _ _ _).trans (e.trans e'))⟩
end Go.Proofs.YtdnahgfgoajmcaaDoor

