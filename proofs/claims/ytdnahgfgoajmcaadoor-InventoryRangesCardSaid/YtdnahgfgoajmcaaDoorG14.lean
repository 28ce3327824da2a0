/-
  A part of the proof, spaces and names shortened by a program (a claim may hold 1,500,000 bytes).
  Conditions: as each theorem states.
-/
import Derived.Test.YtdnahgfgoajmcaaDoorG13
namespace Go.Proofs.YtdnahgfgoajmcaaDoor
open Go Go.Abs
attribute [local congr] aq
theorem u8s_split {B:List Nat} {i k:Nat}:aV B=aV (B.take i)++(aV ((B.drop i).take k)++aV (B.drop (i+k))):=by
 show B.map u8=(B.take i).map u8++(((B.drop i).take k).map u8++(B.drop (i+k)).map u8)
 rw [←List.map_append,←List.map_append,←List.drop_drop,List.take_append_drop,List.take_append_drop]
set_option maxRecDepth 100000 in
theorem r122 {h:ab} (hG:4≤h.n0) (hz:h.get 3=some bZ) {p:Nat} {s:HD} (o:s.Ok) (hp:h.get p=some s.cells) (hp0:h.n0≤p) {a:Option Addr} {n c:Nat} {l:List Nat} (hl:au a n h=some l) (hg:0<n→gF a n c=true) (ha : ∀ y,a=some y→0<n → ¬y.block=p) (hfit:s.n+n≤1000000) :
  ∃ h',CW 122 [ptr p 0,.slice a n c] h=some (.tuple #[],h')∧Kept h h' (· = p)∧h'.get p=some (s.wr l).cells∧(s.wr l).Ok∧(s.wr l).n=s.n+n:=by
 have hlen0:l.length=n:=(aE hl).1
 have h3p : ¬3=p:=by
  have:=h.aP hp
  intro e
  omega
 have key : ∃ o:Out,t122 CW (ptr p 0) (.slice a n c) h=o ∧ ∃ h',o=some (.tuple #[],h')∧Kept h h' (· = p)∧h'.get p=some (s.wr l).cells∧(s.wr l).Ok∧(s.wr l).n=s.n+n:=by
  refine ⟨_,rfl,?_⟩
  unfold t122
  simp -implicitDefEqProofs only [eql158,ad,af]
  refine bO (n:=40) (fin:=fun ex _ g=>ex = .exit 0∧Kept h g (· = p)∧g.get p=some (s.wr l).cells∧(s.wr l).Ok∧(s.wr l).n=s.n+n) (Q:=fun o:Out => ∃ h',o=some (.tuple #[],h')∧Kept h h' (· = p)∧h'.get p=some (s.wr l).cells∧(s.wr l).Ok∧(s.wr l).n=s.n+n)
   (bP (t122l122_10_eq CW) (Inv:=fun k y g => ∃ (s':HD) (a':Option Addr) (n' c':Nat) (l':List Nat),n'=k∧y 0=ptr p 0∧y 1 = .slice a' n' c'∧au a' n' g=some l'∧(0<n'→gF a' n' c'=true)∧(∀ y,a'=some y→0<n' → ¬y.block=p)∧s'.Ok∧g.get p=some s'.cells∧Kept h g (· = p)∧s'.wr l'=s.wr l∧s'.n+n'=s.n+n) ?_ n (by have:rounds=18446744073709551616:=rfl;omega) ⟨s,a,n,c,l,rfl,rfl,rfl,hl,hg,ha,o,hp,Kept.refl _ _,rfl,rfl⟩) ?_
  ·rintro k y g ⟨s',a',n',c',l',rfl,y0,y1,sl',hg',ha',o',gp,K,hw,hn⟩
   unfold t122l122_10
   have hll:cN (.slice a' n' c')=some (ak n'):=rfl
   have hgt:bin Tryd.prog .gtr 3 (ak n') (.int .i64 0)=some (.bool (decide (0<n'))):=by
    unfold ak
    rw [bp]
    congr 2
    rw [decide_eq_decide]
    omega
   have hlen:l'.length=n':=(aE sl').1
   have hby:Bys l':=(aE sl').2.1
   simp -implicitDefEqProofs only [y1,hll,hgt,ad,af]
   by_cases hpos:0<n'
   ·have hm:s'.n%64<64:=Nat.mod_lt _ (by decide)
    generalize hat:s'.n%64=at_ at *
    generalize hk:min n' (64-at_)=k
    have hkp:0<k:=by omega
    have hp0g:g.n0≤p:=by rw [K.n0];exact hp0
    have l72:ld1 (ptr p 72) g=some (ak s'.n,g):=aQ gp (by
     unfold HD.cells dv
     rw [List.getElem?_append_right (by simp [o'.S]),List.getElem?_append_right (by simp [o'.S,o'.B])]
     simp [o'.S,o'.B]) rfl
    have hrem:bin Tryd.prog .rem 3 (ak s'.n) (.int .i64 64)=some (ak at_):=by
     unfold ak
     rw [bin_rem Tryd.prog 3 .i64 _ 64 (by decide),←hat]
     rfl
    have gp1:g.get p=some ((eC s'.S++aV (s'.B.take at_))++(aV ((s'.B.drop at_).take k)++(aV (s'.B.drop (at_+k)) ++ [ak s'.n]))):=by
     rw [gp]
     unfold HD.cells dv
     rw [u8s_split (B:=s'.B) (i:=at_) (k:=k)]
     simp only [List.append_assoc]
    obtain ⟨g2,e2,k2,G2,n2⟩:=copy_min (s:=none) (dn:=64-at_) (dc:=64-at_) (c:=c') (k:=k) (off:=8+at_) gp1 hp0g (by simp [o'.S,o'.B];omega) (by simp [o'.B];omega) sl' hk.symm hkp
    have ll72:ld1 (ptr p 72) g2=some (ak s'.n,g2):=aQ G2 (by
     rw [List.getElem?_append_right (by simp [o'.S,o'.B];omega),List.getElem?_append_right (by simp [o'.S,o'.B];omega),List.getElem?_append_right (by simp [o'.S,o'.B];omega)]
     have:72-(eC s'.S++aV (List.take at_ s'.B)).length-(aV (List.take k l')).length-(aV (List.drop (at_+k) s'.B)).length=0:=by simp [o'.S,o'.B];omega
     rw [this]
     rfl) rfl
    have hadd:bin Tryd.prog .add 3 (ak s'.n) (ak k)=some (ak (s'.n+k)):=by
     unfold ak
     rw [bin_add,show (s'.n:Int)+(k:Int)=((s'.n+k:Nat):Int) by omega,wrap_i64 (by omega) (by omega)]
    have hadd2:bin Tryd.prog .add 3 (ak at_) (ak k)=some (ak (at_+k)):=by
     unfold ak
     rw [bin_add,show (at_:Int)+(k:Int)=((at_+k:Nat):Int) by omega,wrap_i64 (by omega) (by omega)]
    have hp2:g2.n0≤p:=by rw [k2.n0];exact hp0g
    obtain ⟨g3,e3,k3,G3,_,n3⟩:=stored (o:=72) (v:=ak (s'.n+k)) G2 hp2 (by simp [o'.S,o'.B];omega) rfl rfl
    have hBn:((s'.put l').B)=s'.B.take at_++(l'.take k++s'.B.drop (at_+k)):=by
     unfold HD.put
     simp only [hat,hlen,hk]
    have hnn:(s'.put l').n=s'.n+k:=by
     unfold HD.put
     simp only [hat,hlen,hk]
    have G3':g3.get p=some (dv s'.S (s'.put l').B (s'.put l').n):=by
     rw [G3,hBn,hnn]
     unfold dv
     have e1:((eC s'.S++aV (s'.B.take at_))++(aV (l'.take k)++(aV (s'.B.drop (at_+k)) ++ [ak s'.n])))=((eC s'.S++aV (s'.B.take at_))++(aV (l'.take k)++aV (s'.B.drop (at_+k)))) ++ [ak s'.n]:=by simp only [List.append_assoc]
     rw [e1,set_app (A:=(eC s'.S++aV (s'.B.take at_))++(aV (l'.take k)++aV (s'.B.drop (at_+k)))) (B' := [ak (s'.n+k)]) 0 (by simp [o'.S,o'.B];omega) rfl]
     simp only [List.map_append,List.append_assoc]
    have sl3:au a' n' g3=some l':=(k2.trans k3).bytes sl' ha'
    obtain ⟨a2,c2,es,ss,gs,bs⟩:=slR_bytes (vl:=some (ak k)) (vh:=none) (lo:=k) (hi:=n') (hg' hpos) sl3 (by omega) (Nat.le_refl _) rfl (by
     unfold bE ak
     simp only
     rw [if_pos (by omega),Int.toNat_natCast])
    have hss:((l'.drop k).take (n'-k))=l'.drop k:=List.take_of_length_le (by rw [List.length_drop];omega)
    rw [hss] at ss
    have hwr:(s'.put l').wr (l'.drop k)=s.wr l:=by
     rw [←hw,HD.wr_put s' (l:=l') (fun e=>by rw [e] at hlen;simp at hlen;omega),hat,hlen,hk]
    have ok2:=HD.put_ok o' hby
    have ha2 : ∀ y,a2=some y→0<n'-k → ¬y.block=p:=fun y hy _ e=>by
     obtain ⟨y0,h1,h2⟩:=bs y hy
     exact ha' y0 h1 hpos (h2.trans e)
    have K3:Kept h g3 (· = p):=(K.trans k2).trans k3
    by_cases hc:at_+k=64
    ·have hceq:bin Tryd.prog .eql 3 (ak (at_+k)) (.int .i64 64)=some (.bool true):=by
      unfold ak
      rw [bq,hc]
      rfl
     have hg3:4≤g3.n0:=by rw [K3.n0];exact hG
     obtain ⟨g4,e4,k4,G4⟩:=r149 hg3 (Kept.dX K3 hz h3p) (p:=p) o'.S ok2.B ok2.by_ G3' (by rw [K3.n0];exact hp0)
     have hS:(s'.put l').S=fw s'.S (s'.put l').B:=by
      unfold HD.put
      simp only [hat,hlen,hk]
      rw [if_pos hc]
     rw [←hS] at G4
     simp -implicitDefEqProofs only [decide_eq_true hpos,y0,bQ,aB,Nat.zero_add,l72,hrem,arr64 hm,e2,ll72,hadd,e3,es,hadd2,hceq,e4,ad,af]
     exact dU.next (n'-k) (by omega) ⟨s'.put l',a2,n'-k,c2,l'.drop k,rfl,y0,rfl,k4.bytes ss ha2,fun _=>gs,ha2,ok2,G4,K3.trans k4,hwr,by rw [hnn];omega⟩
    ·have hceq:bin Tryd.prog .eql 3 (ak (at_+k)) (.int .i64 64)=some (.bool false):=by
      unfold ak
      rw [bq]
      congr 2
      simp only [beq_eq_false_iff_ne,ne_eq]
      omega
     have hS:(s'.put l').S=s'.S:=by
      unfold HD.put
      simp only [hat,hlen,hk]
      rw [if_neg hc]
     rw [←hS] at G3'
     simp -implicitDefEqProofs only [decide_eq_true hpos,y0,bQ,aB,Nat.zero_add,l72,hrem,arr64 hm,e2,ll72,hadd,e3,es,hadd2,hceq,ad,af]
     exact dU.next (n'-k) (by omega) ⟨s'.put l',a2,n'-k,c2,l'.drop k,rfl,y0,rfl,ss,fun _=>gs,ha2,ok2,G3',K3,hwr,by rw [hnn];omega⟩
   ·have h0:n'=0:=by omega
    subst h0
    have:l' = []:=List.length_eq_zero_iff.1 hlen
    subst this
    simp -implicitDefEqProofs only [decide_eq_false hpos,ad,af]
    rw [HD.wr_nil] at hw
    refine dU.out 0 ⟨rfl,K,by rw [←hw];exact gp,by rw [←hw];exact o',by rw [←hw];omega⟩
  ·rintro _ y g ⟨rfl,K,G,O,N⟩
   simp -implicitDefEqProofs only [bB,b122_2,if_true]
   rw [results122]
   exact ⟨g,rfl,K,G,O,N⟩
 obtain ⟨o1,e,h',e',r⟩:=key
 exact ⟨h',aC is122 hG rfl ((t122_eq _ _ _ _).trans (e.trans e')),r⟩
end Go.Proofs.YtdnahgfgoajmcaaDoor

namespace Go.Proofs.YtdnahgfgoajmcaaDoor
open Go Go.Abs
attribute [local congr] aq
def padT (N v:Nat):Nat→List Nat
 | 0=>128::List.replicate 71 0
 |j+1=>(padT N v j).set (N+j) (v/2^(56-8*j)%256)
def ga (n:Nat):List Nat:=(padT (64-(n+8)%64) (n*8) 8).take (64-(n+8)%64+8)
def digT (S:List (BitVec 32)):Nat→List Nat
 | 0=>List.replicate 32 0
 |j+1=>(digT S j).set j ((S.getD (j/4) 0).toNat/2^(24-8*(j%4))%256)
def HD.sum (s:HD):List Nat:=digT (s.wr (ga s.n)).S 32
theorem padT_len (N v:Nat) : ∀ j,(padT N v j).length=72
 | 0=>rfl
 |j+1=>by rw [padT,List.length_set,padT_len N v j]
theorem digT_len (S:List (BitVec 32)) : ∀ j,(digT S j).length=32
 | 0=>rfl
 |j+1=>by rw [digT,List.length_set,digT_len S j]
theorem bys_set {l:List Nat} (h:Bys l) (i:Nat) {x:Nat} (hx:x<256):Bys (l.set i x):=fun y hy=>by
 rcases List.mem_or_eq_of_mem_set hy with h1|h1
 ·exact h y h1
 ·omega
theorem padT_bys (N v:Nat) : ∀ j,Bys (padT N v j)
 | 0=>fun x hx=>by
   have hx:x∈128::List.replicate 71 0:=hx
   rcases List.mem_cons.1 hx with h|h
   ·omega
   ·have:=List.eq_of_mem_replicate h;omega
 |j+1=>bys_set (padT_bys N v j) _ (Nat.mod_lt _ (by decide))
theorem digT_bys (S:List (BitVec 32)) : ∀ j,Bys (digT S j)
 | 0=>fun x hx=>by have:=List.eq_of_mem_replicate (show x∈List.replicate 32 0 from hx);omega
 |j+1=>bys_set (digT_bys S j) _ (Nat.mod_lt _ (by decide))
theorem sum_d32 (s:HD):gz s.sum:=⟨digT_len _ 32,digT_bys _ 32⟩
theorem dQ (l:List (BitVec 32)):Abs.bJ (eC l)=true∧aJ (eC l)=true:=by
 induction l with
 |nil=>exact ⟨rfl,rfl⟩
 |cons x l ih=>exact ⟨ih.1,ih.2⟩
theorem hash_ok (s:HD):Abs.bJ s.cells=true∧aJ s.cells=true:=by
 have a:=dQ s.S
 unfold HD.cells dv
 exact ⟨gZ _ _ a.1 (gZ _ _ (fF _) rfl),gh _ _ a.2 (gh _ _ (one_u8 _) rfl)⟩
theorem sum1 {h:ab} {b N v:Nat} (hN:N≤64) (hv:v<18446744073709551616) (hb:h.n0≤b) (hw:h.get b=some (aV (padT N v 0))) {p2 p3:Value}
  {x:Nat→Value} (x2:x 2=p2) (x3:x 3=p3) (x4:x 4=ptr b 0) (x5:x 5=ak N) (x6:x 6 = .int .u64 (v:Int)) (x30:x 30=ak 0) :
  Fin 66 (fun ex y g=>ex = .exit 0∧y 2=p2∧y 3=p3∧y 4=ptr b 0∧y 5=ak N∧Kept h g (· = b)∧g.get b=some (aV (padT N v 8))∧g.next=h.next) (iter (av Tryd.prog CW (partOf Tryd.f123 [1,1,1,1,1,1,1,0,1,0,0])) rounds (aO 66 x) h):=by
 refine bP (t123l123_1111111010_eq CW) (Inv:=fun k y g => ∃ j,j+k=8∧y 2=p2∧y 3=p3∧y 4=ptr b 0∧y 5=ak N∧y 6 = .int .u64 (v:Int)∧y 30=ak j∧Kept h g (· = b)∧g.get b=some (aV (padT N v j))∧g.next=h.next) ?_ 8 (by have:rounds=18446744073709551616:=rfl;omega) ⟨0,Nat.zero_add _,x2,x3,x4,x5,x6,x30,Kept.refl _ _,hw,rfl⟩
 rintro k y g ⟨j,hjk,y2,y3,y4,y5,y6,y30,K,gw,gn⟩
 unfold fS
 have l8:bin Tryd.prog .lss 3 (ak j) (.int .i64 8)=some (.bool (decide (j<8))):=lss3 j 8
 simp -implicitDefEqProofs only [y30,l8,ad,af]
 by_cases hj:j<8
 ·have a1:bin Tryd.prog .add 3 (ak N) (ak j)=some (ak (N+j)):=addc (c:=j) (by omega)
  have m1:bin Tryd.prog .mul 3 (.int .i64 8) (ak j)=some (ak (8*j)):=by
   unfold ak
   rw [gU,show (8:Int)*(j:Int)=((8*j:Nat):Int) by omega,wrap_i64 (by omega) (by omega)]
  have s1:bin Tryd.prog .sub 3 (.int .i64 56) (ak (8*j))=some (ak (56-8*j)):=by
   unfold ak
   rw [eK,show (56:Int)-((8*j:Nat):Int)=((56-8*j:Nat):Int) by omega,wrap_i64 (by omega) (by omega)]
  have r1:bin Tryd.prog .shr 32 (.int .u64 (v:Int)) (ak (56-8*j))=some (.int .u64 ((v/2^(56-8*j):Nat):Int)):=dR Tryd.prog 32 (by show 56-8*j≤64;omega)
  have c1:cvI .u8 (.int .u64 ((v/2^(56-8*j):Nat):Int)) g=some (u8 (v/2^(56-8*j)%256),g):=by
   rw [c7,fI]
   rfl
  have ix:bI 72 1 (ptr b 0) (ak (N+j))=some (ptr b (N+j)):=by rw [idxN (by omega),Nat.zero_add]
  obtain ⟨g2,e2,k2,t2,_,n2⟩:=stored (o:=N+j) (v:=u8 (v/2^(56-8*j)%256)) gw (by rw [K.n0];exact hb) (by rw [List.length_map,padT_len];omega) rfl rfl
  simp -implicitDefEqProofs only [decide_eq_true hj,y4,y5,y6,y30,a1,m1,s1,r1,c1,ix,e2,fc (show j+1≤9223372036854775807 by omega),ad,af]
  refine dU.next (k-1) (by omega) ⟨j+1,by omega,y2,y3,y4,y5,y6,rfl,K.trans k2,?_,n2.trans gn⟩
  rw [t2,padT]
  show some ((List.map u8 (padT N v j)).set (N+j) (u8 (v/2^(56-8*j)%256)))=some (List.map u8 ((padT N v j).set (N+j) (v/2^(56-8*j)%256)))
  rw [List.map_set]
 ·have:j=8:=by omega
  subst this
  simp -implicitDefEqProofs only [decide_eq_false hj,ad,af]
  exact dU.out 0 ⟨rfl,y2,y3,y4,y5,K,gw,gn⟩
theorem sum2 {h:ab} {b p:Nat} {S:List (BitVec 32)} {B:List Nat} {n:Nat} (hS:S.length=8) (hp:h.get p=some (dv S B n)) (hpb:p≠b) (hb:h.n0≤b) (hw:h.get b=some (aV (digT S 0))) {p2:Value}
  {x:Nat→Value} (x2:x 2=p2) (x3:x 3=ptr p 0) (x8:x 8=ptr b 0) (x48:x 48=ak 0) :
  Fin 66 (fun ex y g=>ex = .exit 2∧y 2=p2∧y 8=ptr b 0∧Kept h g (· = b)∧g.get b=some (aV (digT S 32))∧g.next=h.next) (iter (av Tryd.prog CW (partOf Tryd.f123 [1,1,1,1,1,1,1,1,1,1,0,1,0,0])) rounds (aO 66 x) h):=by
 refine bP (t123l123_1111111111010_eq CW) (Inv:=fun k y g => ∃ j,j+k=32∧y 2=p2∧y 3=ptr p 0∧y 8=ptr b 0∧y 48=ak j∧Kept h g (· = b)∧g.get b=some (aV (digT S j))∧g.next=h.next) ?_ 32 (by have:rounds=18446744073709551616:=rfl;omega) ⟨0,Nat.zero_add _,x2,x3,x8,x48,Kept.refl _ _,hw,rfl⟩
 rintro k y g ⟨j,hjk,y2,y3,y8,y48,K,gw,gn⟩
 unfold eF
 have l32:bin Tryd.prog .lss 3 (ak j) (.int .i64 32)=some (.bool (decide (j<32))):=lss3 j 32
 simp -implicitDefEqProofs only [y48,l32,ad,af]
 by_cases hj:j<32
 ·have q1:bin Tryd.prog .quo 3 (ak j) (.int .i64 4)=some (ak (j/4)):=by
   unfold ak
   rw [bin_quo Tryd.prog 3 .i64 _ 4 (by decide),show Int.tdiv (j:Int) 4=((j/4:Nat):Int) from rfl,wrap_i64 (by omega) (by omega)]
  have r1:bin Tryd.prog .rem 3 (ak j) (.int .i64 4)=some (ak (j%4)):=by
   unfold ak
   rw [bin_rem Tryd.prog 3 .i64 _ 4 (by decide)]
   rfl
  have m1:bin Tryd.prog .mul 3 (.int .i64 8) (ak (j%4))=some (ak (8*(j%4))):=by
   unfold ak
   rw [gU,show (8:Int)*((j%4:Nat):Int)=((8*(j%4):Nat):Int) by omega,wrap_i64 (by omega) (by omega)]
  have s1:bin Tryd.prog .sub 3 (.int .i64 24) (ak (8*(j%4)))=some (ak (24-8*(j%4))):=by
   unfold ak
   rw [eK,show (24:Int)-((8*(j%4):Nat):Int)=((24-8*(j%4):Nat):Int) by omega,wrap_i64 (by omega) (by omega)]
  have gp:g.get p=some (dv S B n):=Kept.dX K hp hpb
  have lp:ld1 (ptr p (j/4)) g=some (wv (S.getD (j/4) 0),g):=aQ gp (hash_word (by omega)) rfl
  have ixp:bI 8 1 (ptr p 0) (ak (j/4))=some (ptr p (j/4)):=by rw [idxN (by omega),Nat.zero_add]
  have ixb:bI 32 1 (ptr b 0) (ak j)=some (ptr b j):=by rw [idxN hj,Nat.zero_add]
  have sh:bin Tryd.prog .shr 174 (wv (S.getD (j/4) 0)) (ak (24-8*(j%4)))=some (.int .u32 (((S.getD (j/4) 0).toNat/2^(24-8*(j%4)):Nat):Int)):=dR Tryd.prog 174 (by show 24-8*(j%4)≤32;omega)
  have c1:cvI .u8 (.int .u32 (((S.getD (j/4) 0).toNat/2^(24-8*(j%4)):Nat):Int)) g=some (u8 ((S.getD (j/4) 0).toNat/2^(24-8*(j%4))%256),g):=by
   rw [c7,fI]
   rfl
  obtain ⟨g2,e2,k2,t2,_,n2⟩:=stored (o:=j) (v:=u8 ((S.getD (j/4) 0).toNat/2^(24-8*(j%4))%256)) gw (by rw [K.n0];exact hb) (by rw [List.length_map,digT_len];omega) rfl rfl
  simp -implicitDefEqProofs only [decide_eq_true hj,y3,y8,y48,q1,r1,m1,s1,aB,Nat.zero_add,ixp,lp,sh,c1,ixb,e2,fc (show j+1≤9223372036854775807 by omega),ad,af]
  refine dU.next (k-1) (by omega) ⟨j+1,by omega,y2,y3,y8,rfl,K.trans k2,?_,n2.trans gn⟩
  rw [t2,digT]
  show some ((List.map u8 (digT S j)).set j (u8 ((S.getD (j/4) 0).toNat/2^(24-8*(j%4))%256)))=some (List.map u8 ((digT S j).set j ((S.getD (j/4) 0).toNat/2^(24-8*(j%4))%256)))
  rw [List.map_set]
 ·have:j=32:=by omega
  subst this
  simp -implicitDefEqProofs only [decide_eq_false hj,ad,af]
  exact dU.out 2 ⟨rfl,y2,y8,K,gw,gn⟩
abbrev zHash:List Value := [(.int .u32 0),(.int .u32 0),(.int .u32 0),(.int .u32 0),(.int .u32 0),(.int .u32 0),(.int .u32 0),(.int .u32 0),(.int .u8 0),(.int .u8 0),(.int .u8 0),(.int .u8 0),(.int .u8 0),(.int .u8 0),(.int .u8 0),(.int .u8 0),(.int .u8 0),(.int .u8 0),(.int .u8 0),(.int .u8 0),(.int .u8 0),(.int .u8 0),(.int .u8 0),(.int .u8 0),(.int .u8 0),(.int .u8 0),(.int .u8 0),(.int .u8 0),(.int .u8 0),(.int .u8 0),(.int .u8 0),(.int .u8 0),(.int .u8 0),(.int .u8 0),(.int .u8 0),(.int .u8 0),(.int .u8 0),(.int .u8 0),(.int .u8 0),(.int .u8 0),(.int .u8 0),(.int .u8 0),(.int .u8 0),(.int .u8 0),(.int .u8 0),(.int .u8 0),(.int .u8 0),(.int .u8 0),(.int .u8 0),(.int .u8 0),(.int .u8 0),(.int .u8 0),(.int .u8 0),(.int .u8 0),(.int .u8 0),(.int .u8 0),(.int .u8 0),(.int .u8 0),(.int .u8 0),(.int .u8 0),(.int .u8 0),(.int .u8 0),(.int .u8 0),(.int .u8 0),(.int .u8 0),(.int .u8 0),(.int .u8 0),(.int .u8 0),(.int .u8 0),(.int .u8 0),(.int .u8 0),(.int .u8 0),(.int .i64 0)]
end Go.Proofs.YtdnahgfgoajmcaaDoor

namespace Go.Proofs.YtdnahgfgoajmcaaDoor
open Go Go.Abs
attribute [local congr] aq
theorem is123:cd Tryd.prog 123 Tryd.f123:=⟨by kernel_rfl,by kernel_rfl,by kernel_rfl,by kernel_rfl⟩
theorem is121:cd Tryd.prog 121 Tryd.f121:=⟨by kernel_rfl,by kernel_rfl,by kernel_rfl,by kernel_rfl⟩
theorem results123:Tryd.f123.results.toList = [.cell 2 35]:=by kernel_rfl
set_option maxRecDepth 100000 in
theorem r123 {h:ab} (hG:4≤h.n0) (hz:h.get 3=some bZ) {p:Nat} {s:HD} (o:s.Ok) (hp:h.get p=some s.cells) (hn:s.n≤100000) :
  ∃ h',CW 123 [ptr p 0] h=some (.agg (aV s.sum).toArray,h')∧Old h h':=by
 have hplt:=h.aP hp
 have clen:s.cells.length=73:=by
  show (dv s.S s.B s.n).length=73
  rw [hash_len,o.S,o.B]
 have hok:=hash_ok s
 obtain ⟨h1,z1,o1,g1,n1⟩:=fresh (List.replicate 32 (.int .u8 0)) h
 have L1:=bh (n:=73) (Old.get o1 hp) clen hok.1
 obtain ⟨h2,z2,o2,g2,n2⟩:=fresh zHash h1
 obtain ⟨h3,e3,k3,g3,_,n3⟩:=aS (n:=73) (k':=s.cells) g2 (by rw [o2.n0];exact h1.ax) rfl clen hok.2
 have o3:Old h1 h3:=Old.bA o2 k3 (Nat.le_refl _)
 obtain ⟨h4,z4,o4,g4,n4⟩:=fresh (List.replicate 72 (.int .u8 0)) h3
 have hp4:h4.n0≤h3.next:=by rw [o4.n0];exact h3.ax
 have ix0:bI 72 1 (ptr h3.next 0) (.int .i64 0)=some (ptr h3.next 0):=by
  have:=idxN (N:=72) (b:=h3.next) (o:=0) (i:=0) (by decide)
  exact this
 obtain ⟨h5,e5,k5,g5,_,n5⟩:=stored (o:=0) (v := .int .u8 128) g4 hp4 (by decide) rfl rfl
 have o5:Old h3 h5:=Old.bA o4 k5 (Nat.le_refl _)
 have O5:Old h h5:=(o1.trans o3).trans o5
 have l72:ld1 (ptr p 72) h5=some (ak s.n,h5):=aQ (Old.get O5 hp) (by
  show (dv s.S s.B s.n)[72]? = _
  unfold dv
  rw [List.getElem?_append_right (by simp [o.S]),List.getElem?_append_right (by simp [o.S,o.B])]
  simp [o.S,o.B]) rfl
 have a8:bin Tryd.prog .add 3 (ak s.n) (.int .i64 8)=some (ak (s.n+8)):=by
  unfold ak
  rw [bin_add,show (s.n:Int)+8=((s.n+8:Nat):Int) by omega,wrap_i64 (by omega) (by omega)]
 have rm:bin Tryd.prog .rem 3 (ak (s.n+8)) (.int .i64 64)=some (ak ((s.n+8)%64)):=by
  unfold ak
  rw [bin_rem Tryd.prog 3 .i64 _ 64 (by decide)]
  rfl
 have hm:(s.n+8)%64<64:=Nat.mod_lt _ (by decide)
 have sb:bin Tryd.prog .sub 3 (.int .i64 64) (ak ((s.n+8)%64))=some (ak (64-(s.n+8)%64)):=by
  unfold ak
  rw [eK,show (64:Int)-(((s.n+8)%64:Nat):Int)=((64-(s.n+8)%64:Nat):Int) by omega,wrap_i64 (by omega) (by omega)]
 have cu:cvI .u64 (ak s.n) h5=some (.int .u64 (s.n:Int),h5):=by
  unfold ak
  rw [c7,wrap_u64 (by omega) (by omega)]
 have ml:bin Tryd.prog .mul 32 (.int .u64 (s.n:Int)) (.int .u64 8)=some (.int .u64 ((s.n*8:Nat):Int)):=by
  rw [gU,show (s.n:Int)*8=((s.n*8:Nat):Int) by omega,wrap_u64 (by omega) (by omega)]
 have hpad:ga s.n=(padT (64-(s.n+8)%64) (s.n*8) 8).take (64-(s.n+8)%64+8):=rfl
 have hplen:(ga s.n).length=64-(s.n+8)%64+8:=by rw [hpad,List.length_take,padT_len];omega
 have hsum:s.sum=digT (s.wr (ga s.n)).S 32:=rfl
 generalize hNN:64-(s.n+8)%64=N at *
 have hN:N≤64:=by omega
 have hp5:h5.n0≤h3.next:=by rw [k5.n0];exact hp4
 have key : ∃ o:Out,t123 CW (ptr p 0) h=o ∧ ∃ h',o=some (.agg (aV s.sum).toArray,h')∧Old h h':=by
  refine ⟨_,rfl,?_⟩
  unfold t123
  simp -implicitDefEqProofs only [z1,eql158,bQ,L1,z2,e3,z4,ix0,e5,aB,Nat.zero_add,l72,a8,rm,sb,cu,ml,ad,af]
  refine bO (Q:=fun o:Out => ∃ h',o=some (.agg (aV s.sum).toArray,h')∧Old h h') (sum1 (N:=N) (v:=s.n*8) hN (by omega) hp5 g5 (p2:=ptr h.next 0) (p3:=ptr h1.next 0) rfl rfl rfl rfl rfl rfl) ?_
  rintro _ y g6 ⟨rfl,y2,y3,y4,y5,K6,G6,N6⟩
  simp -implicitDefEqProofs only [bB,b123_11,if_true,t123k123_9_eq]
  unfold t123k123_9
  have O6:Old h3 g6:=o5.also K6 (fun d hd e=>by omega)
  have OO6:Old h g6:=(o1.trans o3).trans O6
  have b8:bin Tryd.prog .add 3 (ak N) (.int .i64 8)=some (ak (N+8)):=addc (c:=8) (by omega)
  have sa:cy 72 1 (ptr h3.next 0) none (some (ak (N+8))) none=some (.slice (some ⟨h3.next,0,none⟩) (N+8) 72):=by
   have b1:bE 72 72 (some (ak (N+8)))=some (N+8):=by
    unfold bE ak
    simp only
    rw [if_pos (by omega),Int.toNat_natCast]
   unfold cy
   have b2:bE 72 72 (none:Option Value)=some 72:=rfl
   have b3:bE 0 (N+8) (none:Option Value)=some 0:=rfl
   simp only [cm,b1,b2,b3]
   show some (Value.slice (some ⟨h3.next,if 72=0 then 0 else 0+0*1,none⟩) (N+8-0) (72-0))=_
   rw [if_neg (by decide)]
   rfl
  have sl:=cK (off:=0) (n:=N+8) (s:=none) G6 (by rw [padT_len];omega) (padT_bys _ _ _)
  rw [List.drop_zero,←hpad] at sl
  have hg6:4≤g6.n0:=by rw [OO6.n0];exact hG
  have G3:g6.get h1.next=some s.cells:=Old.get O6 g3
  obtain ⟨h7,e7,k7,g7,w7,m7⟩:=r122 (h:=g6) hg6 (Old.get OO6 hz) (p:=h1.next) (s:=s) o G3 (by rw [OO6.n0];have:=h.ax;omega) (c:=72) sl (fun _=>by
   unfold gF
   rw [Nat.ble_eq_true_of_le (show N+8≤72 by omega)]
   rfl) (fun y hy _ e=>by cases hy;have:h3.next=h1.next:=e;omega) (by omega)
  obtain ⟨h8,z8,o8,g8,n8⟩:=fresh (List.replicate 32 (.int .u8 0)) h7
  have m6:=O6.next
  have q7:=k7.next
  simp -implicitDefEqProofs only [y5,b8,y4,sa,y3,e7,z8,ad,af]
  refine bO (Q:=fun o:Out => ∃ h',o=some (.agg (aV s.sum).toArray,h')∧Old h h') (sum2 (p:=h1.next) (b:=h7.next) w7.S (Old.get o8 g7) (by have:=h7.aP g7;omega) (by rw [o8.n0];exact h7.ax) g8 (p2:=ptr h.next 0) y2 y3 rfl rfl) ?_
  rintro _ y' g9 ⟨rfl,y2',y8',K9,G9,N9⟩
  simp -implicitDefEqProofs only [bB,b123_16,if_true,t123k123_14_eq]
  unfold t123k123_14
  have dc:=aW (sum_d32 s)
  rw [←hsum] at G9
  have L9:=bh G9 dc.1 dc.2.1
  have O7:Old h h7:=Old.bA OO6 k7 (by omega)
  have O9:Old h g9:=(O7.trans o8).also K9 (fun d hd e=>by have:=O7.next;omega)
  have g1':g9.get h.next=some (List.replicate 32 (.int .u8 0)):=by
   have e1:h3.get h.next=some (List.replicate 32 (.int .u8 0)):=Old.get o3 g1
   have e6:g6.get h.next=some (List.replicate 32 (.int .u8 0)):=Old.get O6 e1
   have e7':h7.get h.next=some (List.replicate 32 (.int .u8 0)):=Kept.dX k7 e6 (by omega)
   exact Kept.dX K9 (Old.get o8 e7') (by omega)
  obtain ⟨h10,e10,k10,g10,_,_⟩:=aS (n:=32) (k':=aV s.sum) g1' (by rw [O9.n0];exact h.ax) rfl dc.1 dc.2.2
  have L10:=bh g10 dc.1 dc.2.1
  simp -implicitDefEqProofs only [y8',L9,y2',e10,ad]
  refine ⟨h10,?_,Old.bA O9 k10 (Nat.le_refl _)⟩
  exact cW results123 agg35 fK (show 2<66 by decide) _ (by
   show cT 32 (y' 2) h10=_
   rw [y2']
   exact L10)
 obtain ⟨o1,e,h',e',r⟩:=key
 exact ⟨h',aC is123 hG rfl ((t123_eq _ _ _).trans (e.trans e')),r⟩
end Go.Proofs.YtdnahgfgoajmcaaDoor

namespace Go.Proofs.YtdnahgfgoajmcaaDoor
open Go Go.Abs
attribute [local congr] aq
def H0:List (BitVec 32) := [1779033703,3144134277,1013904242,2773480762,1359893119,2600822924,528734635,1541459225].map (BitVec.ofNat 32)
def HD0:HD:=⟨H0,List.replicate 64 0,0⟩
theorem HD0_ok:HD0.Ok:=⟨rfl,rfl,fun x hx=>by have:=List.eq_of_mem_replicate (show x∈List.replicate 64 0 from hx);omega⟩
theorem bldH:eW (List.replicate 8 (.int .u32 0)) [(0,1,(.int .u32 1779033703)),(1,1,(.int .u32 3144134277)),(2,1,(.int .u32 1013904242)),(3,1,(.int .u32 2773480762)),(4,1,(.int .u32 1359893119)),(5,1,(.int .u32 2600822924)),(6,1,(.int .u32 528734635)),(7,1,(.int .u32 1541459225))]=some (.agg (eC H0).toArray):=by kernel_rfl
theorem bldH2:eW zHash [(0,8,.agg (eC H0).toArray)]=some (.agg HD0.cells.toArray):=by kernel_rfl
theorem r121 {h:ab} (hG:4≤h.n0) : ∃ h',CW 121 [] h=some (ptr h.next 0,h')∧Old h h'∧h'.get h.next=some HD0.cells∧h'.next=h.next+1:=by
 have b:=fT h HD0.cells (hash_ok HD0).2
 refine ⟨h.alloc HD0.cells,aC is121 hG rfl ((t121_eq _ _).trans ?_),Kept.alloc _ _ _,by rw [ab.aK,if_pos rfl],ab.cn ..⟩
 unfold t121
 simp -implicitDefEqProofs only [bldH,bldH2,b,ad,af]
theorem is69:cd Tryd.prog 69 Tryd.f69:=⟨by kernel_rfl,by kernel_rfl,by kernel_rfl,by kernel_rfl⟩
theorem is70:cd Tryd.prog 70 Tryd.f70:=⟨by kernel_rfl,by kernel_rfl,by kernel_rfl,by kernel_rfl⟩
theorem results69:Tryd.f69.results.toList = [.cell 2 35]:=by kernel_rfl
theorem results70:Tryd.f70.results.toList = [.cell 4 35]:=by kernel_rfl
def leafD (r:ao):List Nat:=((HD0.wr [0]).wr (encRec r)).sum
def cV (a b:List Nat):List Nat:=(((HD0.wr [1]).wr a).wr b).sum
theorem leafD_ok (r:ao):gz (leafD r):=sum_d32 _
theorem nodeD_ok (a b:List Nat):gz (cV a b):=sum_d32 _
set_option maxRecDepth 100000 in
theorem r69 {h:ab} (hG:4≤h.n0) (hz:h.get 3=some bZ) {r:ao} (w:r.Wf) (v:dK r=true) : ∃ h',CW 69 [.agg (recC r).toArray] h=some (.agg (aV (leafD r)).toArray,h')∧Old h h':=by
 obtain ⟨h1,b1,o1,g1,n1⟩:=dG h w
 obtain ⟨h2,z2,o2,g2,n2⟩:=fresh (List.replicate 32 (.int .u8 0)) h1
 have L2:=bh (o2.get g1) (bg w).1 (bg w).2.1
 have O2:=o1.trans o2
 obtain ⟨a,c,h3,e3,s3,o3,ha,gd⟩:=r43 (h:=h2) (by rw [O2.n0];exact hG) w v
 have O3:=O2.trans o3
 obtain ⟨h4,e4,o4,g4,n4⟩:=r121 (h:=h3) (by rw [O3.n0];exact hG)
 have O4:=O3.trans o4
 have b5:cO 1 (.int .u8 0) 1 [(0,.int .u8 0)] h4=some (.slice (some ⟨h4.next,0,none⟩) 1 1,h4.alloc [u8 0]):=bsl1 h4 0
 have o5:Old h4 (h4.alloc [u8 0]):=Kept.alloc _ _ _
 have s5:=bytes1 h4 (x:=0) (by decide)
 have O5:=O4.trans o5
 obtain ⟨h6,e6,k6,g6,w6,m6⟩:=r122 (h:=h4.alloc [u8 0]) (by rw [O5.n0];exact hG) (Old.get O5 hz) (p:=h3.next) HD0_ok (Old.get o5 g4) (by rw [O5.n0];have:=h.ax;have:=O3.next;omega) (c:=1) s5 (fun _=>rfl) (fun y hy _ e=>by cases hy;have:h4.next=h3.next:=e;omega) (by show 0+1≤1000000;omega)
 have O6:Old h h6:=Old.bA O5 k6 (by have:=O3.next;omega)
 have s6:au a 53 h6=some (encRec r):=k6.bytes (Old.bytes (o4.trans o5) s3) (fun y hy _ e=>by
  have q:=ha y hy
  have:y.block<h3.next:=by
   obtain ⟨b',off',s',k',hx,hk',_⟩:=(aE s3).2.2 (by decide)
   rw [hy] at hx
   cases hx
   exact h3.aP hk'
  omega)
 obtain ⟨h7,e7,k7,g7,w7,m7⟩:=r122 (h:=h6) (by rw [O6.n0];exact hG) (Old.get O6 hz) (p:=h3.next) w6 g6 (by rw [O6.n0];have:=h.ax;have:=O3.next;omega) (c:=c) s6 (fun _=>gd) (fun y hy _ e=>by
  have q:=ha y hy
  have:y.block<h3.next:=by
   obtain ⟨b',off',s',k',hx,hk',_⟩:=(aE s3).2.2 (by decide)
   rw [hy] at hx
   cases hx
   exact h3.aP hk'
  omega) (by rw [m6];show 0+1+53≤1000000;omega)
 have O7:Old h h7:=Old.bA O6 k7 (by have:=O3.next;omega)
 obtain ⟨h8,e8,o8⟩:=r123 (h:=h7) (by rw [O7.n0];exact hG) (Old.get O7 hz) (p:=h3.next) w7 g7 (by rw [m7,m6];show 0+1+53≤100000;omega)
 have O8:=O7.trans o8
 have e8:CW 123 [ptr h3.next 0] h7=some (.agg (aV (leafD r)).toArray,h8):=e8
 have dc:=aW (leafD_ok r)
 have hne : ¬h1.next=h3.next:=by have:=o3.next;omega
 have q2:h8.get h1.next=some (List.replicate 32 (.int .u8 0)):=Old.get o8 (Kept.dX k7 (Kept.dX k6 (Old.get (o4.trans o5) (o3.get g2)) hne) hne)
 obtain ⟨h9,e9,k9,g9,_,_⟩:=aS (n:=32) (k':=aV (leafD r)) q2 (by rw [O8.n0];have:=h.ax;have:=o1.next;omega) rfl dc.1 dc.2.2
 have L9:=bh g9 dc.1 dc.2.1
 refine ⟨h9,aC is69 hG rfl ((t69_eq _ _ _).trans ?_),Old.bA O8 k9 (by have:=o1.next;omega)⟩
 unfold t69
 simp -implicitDefEqProofs only [b1,z2,L2,e3,ext0,ext1,e4,b5,e6,e7,e8,e9,ad,af]
 exact cW results69 agg35 fK (show 2<20 by decide) _ L9
set_option maxRecDepth 100000 in
theorem r70 {h:ab} (hG:4≤h.n0) (hz:h.get 3=some bZ) {a b:List Nat} (wa:gz a) (wb:gz b) : ∃ h',CW 70 [.agg (aV a).toArray,.agg (aV b).toArray] h=some (.agg (aV (cV a b)).toArray,h')∧Old h h':=by
 have ca:=aW wa
 have cb:=aW wb
 have b1:=fT h _ ca.2.2
 have o1:Old h (h.alloc (aV a)):=Kept.alloc _ _ _
 have g1:(h.alloc (aV a)).get h.next=some (aV a):=by rw [ab.aK,if_pos rfl]
 have n1:(h.alloc (aV a)).next=h.next+1:=ab.cn ..
 generalize h.alloc (aV a)=h1 at *
 have b2:=fT h1 _ cb.2.2
 have o2:Old h1 (h1.alloc (aV b)):=Kept.alloc _ _ _
 have g2:(h1.alloc (aV b)).get h1.next=some (aV b):=by rw [ab.aK,if_pos rfl]
 have n2:(h1.alloc (aV b)).next=h1.next+1:=ab.cn ..
 generalize h1.alloc (aV b)=h2 at *
 obtain ⟨h3,z3,o3,g3,n3⟩:=fresh (List.replicate 32 (.int .u8 0)) h2
 have O3:=(o1.trans o2).trans o3
 obtain ⟨h4,e4,o4,g4,n4⟩:=r121 (h:=h3) (by rw [O3.n0];exact hG)
 have O4:=O3.trans o4
 have b5:cO 1 (.int .u8 0) 1 [(0,.int .u8 1)] h4=some (.slice (some ⟨h4.next,0,none⟩) 1 1,h4.alloc [u8 1]):=bsl1 h4 1
 have o5:Old h4 (h4.alloc [u8 1]):=Kept.alloc _ _ _
 have s5:=bytes1 h4 (x:=1) (by decide)
 have O5:=O4.trans o5
 have hpl:h.n0≤h3.next:=by have:=h.ax;have:=O3.next;omega
 obtain ⟨h6,e6,k6,g6,w6,m6⟩:=r122 (h:=h4.alloc [u8 1]) (by rw [O5.n0];exact hG) (Old.get O5 hz) (p:=h3.next) HD0_ok (Old.get o5 g4) (by rw [O5.n0];exact hpl) (c:=1) s5 (fun _=>rfl) (fun y hy _ e=>by cases hy;have:h4.next=h3.next:=e;omega) (by show 0+1≤1000000;omega)
 have O6:Old h h6:=Old.bA O5 k6 (by have:=O3.next;omega)
 have q1:h6.get h.next=some (aV a):=Kept.dX k6 (Old.get (((o2.trans o3).trans o4).trans o5) g1) (by omega)
 have q2:h6.get h1.next=some (aV b):=Kept.dX k6 (Old.get ((o3.trans o4).trans o5) g2) (by omega)
 have t1:=cK (off:=0) (n:=32) (s:=none) q1 (by rw [wa.1];decide) wa.2
 rw [List.drop_zero,List.take_of_length_le (by rw [wa.1];decide)] at t1
 obtain ⟨h7,e7,k7,g7,w7,m7⟩:=r122 (h:=h6) (by rw [O6.n0];exact hG) (Old.get O6 hz) (p:=h3.next) w6 g6 (by rw [O6.n0];exact hpl) (c:=32) t1 (fun _=>rfl) (fun y hy _ e=>by cases hy;have:h.next=h3.next:=e;omega) (by rw [m6];show 0+1+32≤1000000;omega)
 have O7:Old h h7:=Old.bA O6 k7 (by have:=O3.next;omega)
 have t2:=cK (off:=0) (n:=32) (s:=none) (Kept.dX k7 q2 (by omega)) (by rw [wb.1];decide) wb.2
 rw [List.drop_zero,List.take_of_length_le (by rw [wb.1];decide)] at t2
 obtain ⟨h8,e8,k8,g8,w8,m8⟩:=r122 (h:=h7) (by rw [O7.n0];exact hG) (Old.get O7 hz) (p:=h3.next) w7 g7 (by rw [O7.n0];exact hpl) (c:=32) t2 (fun _=>rfl) (fun y hy _ e=>by cases hy;have:h1.next=h3.next:=e;omega) (by rw [m7,m6];show 0+1+32+32≤1000000;omega)
 have O8:Old h h8:=Old.bA O7 k8 (by have:=O3.next;omega)
 obtain ⟨h9,e9,o9⟩:=r123 (h:=h8) (by rw [O8.n0];exact hG) (Old.get O8 hz) (p:=h3.next) w8 g8 (by rw [m8,m7,m6];show 0+1+32+32≤100000;omega)
 have O9:=O8.trans o9
 have e9:CW 123 [ptr h3.next 0] h8=some (.agg (aV (cV a b)).toArray,h9):=e9
 have dc:=aW (nodeD_ok a b)
 have hne : ¬h2.next=h3.next:=by omega
 have q3:h9.get h2.next=some (List.replicate 32 (.int .u8 0)):=Old.get o9 (Kept.dX k8 (Kept.dX k7 (Kept.dX k6 (Old.get (o4.trans o5) g3) hne) hne) hne)
 obtain ⟨h10,e10,k10,g10,_,_⟩:=aS (n:=32) (k':=aV (cV a b)) q3 (by rw [O9.n0];have:=h.ax;omega) rfl dc.1 dc.2.2
 have L10:=bh g10 dc.1 dc.2.1
 refine ⟨h10,aC is70 hG rfl ((t70_eq _ _ _ _).trans ?_),Old.bA O9 k10 (by omega)⟩
 unfold t70
 simp -implicitDefEqProofs only [b1,b2,z3,e4,b5,e6,arr32,e7,e8,e9,e10,ad,af]
 exact cW results70 agg35 fK (show 4<18 by decide) _ L10
end Go.Proofs.YtdnahgfgoajmcaaDoor

namespace Go.Proofs.YtdnahgfgoajmcaaDoor
open Go Go.Abs
attribute [local congr] aq
theorem is161:cd Tryd.prog 161 Tryd.f161:=⟨by kernel_rfl,by kernel_rfl,by kernel_rfl,by kernel_rfl⟩
theorem r161 {h:ab} (hG:4≤h.n0) (x:BitVec 32) {k:Nat} (hk:k≤32):CW 161 [wv x,.int .u64 (k:Int)] h=some (wv (dC x k),h):=by
 refine aC is161 hG rfl ((t161_eq _ _ _ _).trans ?_)
 unfold t161
 have e2:bin Tryd.prog .sub 111 (.int .u64 32) (.int .u64 (k:Int))=some (.int .u64 ((32-k:Nat):Int)):=by
  rw [eK,show (32:Int)-(k:Int)=((32-k:Nat):Int) by omega,wrap_u64 (by omega) (by omega)]
 simp -implicitDefEqProofs only [e2,w_shl x (show 32-k≤32 by omega),w_shr x hk,w_or,ad,af]
 unfold dC
 rw [BitVec.or_comm]
def gj (B:List Nat):Nat→List (BitVec 32)
 | 0 => []
 |i+1=>gj B i ++ [if i<16 then wAt B i else nextW (gj B i)]
theorem schW_len (B:List Nat) : ∀ i,(gj B i).length=i
 | 0=>rfl
 |i+1=>by rw [gj,List.length_append,schW_len B i];rfl
theorem schW_16 (B:List Nat) : ∀ i,i≤16→gj B i=(List.range i).map (wAt B)
 | 0,_=>rfl
 |i+1,h=>by
  rw [gj,schW_16 B i (by omega),if_pos (by omega),List.range_succ,List.map_append]
  rfl
theorem schW_ext (B:List Nat) : ∀ i,gj B (16+i)=extW i (sch0 B)
 | 0=>schW_16 B 16 (by decide)
 |i+1=>by
  rw [show 16+(i+1)=(16+i)+1 from rfl,gj,if_neg (by omega),schW_ext B i,extW_snoc]
theorem schW_64 (B:List Nat):gj B 64=extW 48 (sch0 B):=schW_ext B 48
theorem chkW (x:BitVec 32) (h:ab):bN true (some (wv x,h)) (wv x)=true:=chkI .u32 _ _
set_option maxRecDepth 100000 in
theorem rnd1 {h:ab} (hG:4≤h.n0) {b:Nat} {B:List Nat} (hBl:B.length=64) {a:Option Addr} {c:Nat} (hB:au a 64 h=some B) (ha : ∀ y,a=some y → ¬y.block=b) (hb:h.n0≤b) (hw:h.get b=some (wTab []))
  {p3 p4 p6:Value} {x:Nat→Value} (x2:x 2 = .slice a 64 c) (x3:x 3=p3) (x4:x 4=p4) (x6:x 6=p6) (x7:x 7=ptr b 0) (x8:x 8=ak 0) :
  Fin 206 (fun ex y g=>ex = .exit 0∧y 3=p3∧y 4=p4∧y 6=p6∧y 7=ptr b 0∧Kept h g (· = b)∧g.get b=some (wTab (extW 48 (sch0 B)))∧g.next=h.next) (iter (av Tryd.prog CW (partOf Tryd.f153 [1,1,0,1,0,0])) rounds (aO 206 x) h):=by
 have hby:Bys B:=(aE hB).2.1
 refine bP (t153l153_11010_eq CW) (Inv:=fun k y g => ∃ i,i+k=64∧y 2 = .slice a 64 c∧y 3=p3∧y 4=p4∧y 6=p6∧y 7=ptr b 0∧y 8=ak i∧Kept h g (· = b)∧g.get b=some (wTab (gj B i))∧g.next=h.next) ?_ 64 (by have:rounds=18446744073709551616:=rfl;omega) ⟨0,Nat.zero_add _,x2,x3,x4,x6,x7,x8,Kept.refl _ _,hw,rfl⟩
 rintro k y g ⟨i,hik,y2,y3,y4,y6,y7,y8,K,gw,gn⟩
 unfold t153l153_11010
 have l64:bin Tryd.prog .lss 3 (ak i) (.int .i64 64)=some (.bool (decide (i<64))):=lss3 i 64
 have l16:bin Tryd.prog .lss 3 (ak i) (.int .i64 16)=some (.bool (decide (i<16))):=lss3 i 16
 simp -implicitDefEqProofs only [y8,l64,ad,af]
 by_cases hi:i<64
 ·simp -implicitDefEqProofs only [decide_eq_true hi,l16,ad,af]
  have len:=schW_len B i
  have ix : ∀ j,j<64→bI 64 1 (ptr b 0) (ak j)=some (ptr b j):=fun j hj=>by rw [idxN hj,Nat.zero_add]
  have hg:4≤g.n0:=by rw [K.n0];exact hG
  by_cases h16:i<16
  ·have sl:au a 64 g=some B:=K.bytes hB (fun y hy _=>ha y hy)
   obtain ⟨_,q0,_,i0,d0⟩:=byte_at (c:=c) (i:=4*i) sl (by omega)
   obtain ⟨_,q1,_,i1,d1⟩:=byte_at (c:=c) (i:=4*i+1) sl (by omega)
   obtain ⟨_,q2,_,i2,d2⟩:=byte_at (c:=c) (i:=4*i+2) sl (by omega)
   obtain ⟨_,q3,_,i3,d3⟩:=byte_at (c:=c) (i:=4*i+3) sl (by omega)
   have c0:=w_byte _ (bys_getD hby (j:=4*i) (by omega)) g
   have c1:=w_byte _ (bys_getD hby (j:=4*i+1) (by omega)) g
   have c2:=w_byte _ (bys_getD hby (j:=4*i+2) (by omega)) g
   have c3:=w_byte _ (bys_getD hby (j:=4*i+3) (by omega)) g
   have a1:bin Tryd.prog .add 3 (ak (4*i)) (.int .i64 1)=some (ak (4*i+1)):=addc (c:=1) (by omega)
   have a2:bin Tryd.prog .add 3 (ak (4*i)) (.int .i64 2)=some (ak (4*i+2)):=addc (c:=2) (by omega)
   have a3:bin Tryd.prog .add 3 (ak (4*i)) (.int .i64 3)=some (ak (4*i+3)):=addc (c:=3) (by omega)
   have sh24 : ∀ x:BitVec 32,bin Tryd.prog .shl 174 (wv x) (.int .u64 24)=some (wv (x <<< 24)):=fun x=>w_shl x (k:=24) (by decide)
   have sh16 : ∀ x:BitVec 32,bin Tryd.prog .shl 174 (wv x) (.int .u64 16)=some (wv (x <<< 16)):=fun x=>w_shl x (k:=16) (by decide)
   have sh8 : ∀ x:BitVec 32,bin Tryd.prog .shl 174 (wv x) (.int .u64 8)=some (wv (x <<< 8)):=fun x=>w_shl x (k:=8) (by decide)
   obtain ⟨g2,e2,k2,s2,_,m2⟩:=stored (o:=i) (v:=wv (wAt B i)) gw (by rw [K.n0];exact hb) (by rw [wTab_len (by omega)];omega) rfl rfl
   have hw4:wv (BitVec.ofNat 32 (B.getD (4*i) 0) <<< 24 ||| BitVec.ofNat 32 (B.getD (4*i+1) 0) <<< 16 ||| BitVec.ofNat 32 (B.getD (4*i+2) 0) <<< 8 ||| BitVec.ofNat 32 (B.getD (4*i+3) 0))=wv (wAt B i):=rfl
   simp -implicitDefEqProofs only [decide_eq_true h16,y2,y7,y8,mul4 (show i<1000 by omega),i0,i1,i2,i3,d0,d1,d2,d3,c0,c1,c2,c3,a1,a2,a3,sh24,sh16,sh8,w_or,hw4,ix i hi,e2,fc (show i+1≤9223372036854775807 by omega),ad,af]
   refine dU.next (k-1) (by omega) ⟨i+1,by omega,y2,y3,y4,y6,y7,rfl,K.trans k2,?_,m2.trans gn⟩
   rw [s2,wTab_set len hi,gj,if_pos h16]
  ·have s15:bin Tryd.prog .sub 3 (ak i) (.int .i64 15)=some (ak (i-15)):=subc (c:=15) (by omega) (by omega)
   have s2:bin Tryd.prog .sub 3 (ak i) (.int .i64 2)=some (ak (i-2)):=subc (c:=2) (by omega) (by omega)
   have s16:bin Tryd.prog .sub 3 (ak i) (.int .i64 16)=some (ak (i-16)):=subc (c:=16) (by omega) (by omega)
   have s7:bin Tryd.prog .sub 3 (ak i) (.int .i64 7)=some (ak (i-7)):=subc (c:=7) (by omega) (by omega)
   have lw : ∀ j,j<i→ld1 (ptr b j) g=some (wv ((gj B i).getD j 0),g):=fun j hj=>aQ gw (wTab_at (by omega)) rfl
   have lX:=lw (i-15) (by omega)
   have lY:=lw (i-2) (by omega)
   have rt7:CW 161 [wv ((gj B i).getD (i-15) 0),.int .u64 7] g=some (wv (dC ((gj B i).getD (i-15) 0) 7),g):=r161 hg _ (k:=7) (by decide)
   have rt18:CW 161 [wv ((gj B i).getD (i-15) 0),.int .u64 18] g=some (wv (dC ((gj B i).getD (i-15) 0) 18),g):=r161 hg _ (k:=18) (by decide)
   have rt17:CW 161 [wv ((gj B i).getD (i-2) 0),.int .u64 17] g=some (wv (dC ((gj B i).getD (i-2) 0) 17),g):=r161 hg _ (k:=17) (by decide)
   have rt19:CW 161 [wv ((gj B i).getD (i-2) 0),.int .u64 19] g=some (wv (dC ((gj B i).getD (i-2) 0) 19),g):=r161 hg _ (k:=19) (by decide)
   have sh3 : ∀ x:BitVec 32,bin Tryd.prog .shr 174 (wv x) (.int .u64 3)=some (wv (x >>> 3)):=fun x=>w_shr x (k:=3) (by decide)
   have sh10 : ∀ x:BitVec 32,bin Tryd.prog .shr 174 (wv x) (.int .u64 10)=some (wv (x >>> 10)):=fun x=>w_shr x (k:=10) (by decide)
   have hN:wv ((dC ((gj B i).getD (i-2) 0) 17 ^^^ dC ((gj B i).getD (i-2) 0) 19 ^^^ (gj B i).getD (i-2) 0 >>> 10)+(gj B i).getD (i-7) 0+(dC ((gj B i).getD (i-15) 0) 7 ^^^ dC ((gj B i).getD (i-15) 0) 18 ^^^ (gj B i).getD (i-15) 0 >>> 3)+(gj B i).getD (i-16) 0)=wv (nextW (gj B i)):=by
    unfold nextW s0w s1w
    rw [len]
    congr 1
    ac_rfl
   obtain ⟨g2,e2,k2,t2,_,m2⟩:=stored (o:=i) (v:=wv (nextW (gj B i))) gw (by rw [K.n0];exact hb) (by rw [wTab_len (by omega)];omega) rfl rfl
   simp -implicitDefEqProofs only [decide_eq_false h16,y7,y8,s15,s2,s16,s7,ix (i-15) (by omega),ix (i-2) (by omega),ix (i-16) (by omega),ix (i-7) (by omega),ix i hi,lX,lY,lw (i-16) (by omega),lw (i-7) (by omega),rt7,rt18,rt17,rt19,w_xor,sh3,sh10,w_add,hN,e2,chkW,Bool.and_self,Bool.and_true,fc (show i+1≤9223372036854775807 by omega),ad,af]
   refine dU.next (k-1) (by omega) ⟨i+1,by omega,y2,y3,y4,y6,y7,rfl,K.trans k2,?_,m2.trans gn⟩
   rw [t2,wTab_set len hi,gj,if_neg h16]
 ·have:i=64:=by omega
  subst this
  simp -implicitDefEqProofs only [decide_eq_false hi,ad,af]
  rw [schW_64] at gw
  exact dU.out 0 ⟨rfl,y3,y4,y6,y7,K,gw,gn⟩
end Go.Proofs.YtdnahgfgoajmcaaDoor

namespace Go.Proofs.YtdnahgfgoajmcaaDoor
open Go Go.Abs
attribute [local congr] aq
theorem ch_eq (e f g:BitVec 32):(e &&& f) ^^^ (~~~e &&& g)=g ^^^ (e &&& (f ^^^ g)):=by
 apply BitVec.eq_of_getLsbD_eq
 intro i hi
 simp only [BitVec.getLsbD_xor,BitVec.getLsbD_and,BitVec.getLsbD_not,hi,decide_true,Bool.true_and]
 cases e.getLsbD i<;>cases f.getLsbD i<;>cases g.getLsbD i<;>rfl
theorem maj_eq (a b c:BitVec 32):(a &&& b) ^^^ (a &&& c) ^^^ (b &&& c)=(a &&& b) ||| (c &&& (a ||| b)):=by
 apply BitVec.eq_of_getLsbD_eq
 intro i hi
 simp only [BitVec.getLsbD_xor,BitVec.getLsbD_and,BitVec.getLsbD_or]
 cases a.getLsbD i<;>cases b.getLsbD i<;>cases c.getLsbD i<;>rfl
theorem rots161 {h:ab} (hG:4≤h.n0) (x:BitVec 32):CW 161 [wv x,.int .u64 6] h=some (wv (dC x 6),h)∧CW 161 [wv x,.int .u64 11] h=some (wv (dC x 11),h)∧CW 161 [wv x,.int .u64 25] h=some (wv (dC x 25),h)∧CW 161 [wv x,.int .u64 2] h=some (wv (dC x 2),h)∧CW 161 [wv x,.int .u64 13] h=some (wv (dC x 13),h)∧CW 161 [wv x,.int .u64 22] h=some (wv (dC x 22),h):=
 ⟨r161 hG x (k:=6) (by decide),r161 hG x (k:=11) (by decide),r161 hG x (k:=25) (by decide),r161 hG x (k:=2) (by decide),r161 hG x (k:=13) (by decide),r161 hG x (k:=22) (by decide)⟩
theorem St.l_ok (s:St):(eC s.l).length=8∧Abs.bJ (eC s.l)=true∧aJ (eC s.l)=true:=⟨rfl,(dQ _).1,(dQ _).2⟩
set_option maxRecDepth 100000 in
theorem rnd2 {h:ab} (hG:4≤h.n0) {b kb q p:Nat} {W:List (BitVec 32)} (hl:W.length=64) (hw:h.get b=some (wTab W)) (hk:h.get kb=some (eC rkW)) (hq0:h.n0≤q) (hqb : ¬b=q) (hqk : ¬kb=q) {s:St} (hq:h.get q=some (eC s.l))
  {p6:Value} {x:Nat→Value} (x3:x 3=ptr p 0) (x4:x 4=ptr kb 0) (x6:x 6=p6) (x7:x 7=ptr b 0) (x11:x 11=ptr q 0) (x12:x 12=ak 0) :
  Fin 206 (fun ex y g=>ex = .exit 2∧y 3=ptr p 0∧y 6=p6∧y 11=ptr q 0∧Kept h g (· = q)∧g.get q=some (eC (runS W 64 s).l)∧g.next=h.next) (iter (av Tryd.prog CW (partOf Tryd.f153 [1,1,1,1,0,1,0,0])) rounds (aO 206 x) h):=by
 refine bP (t153l153_1111010_eq CW) (Inv:=fun k y g => ∃ i,i+k=64∧y 3=ptr p 0∧y 4=ptr kb 0∧y 6=p6∧y 7=ptr b 0∧y 11=ptr q 0∧y 12=ak i∧Kept h g (· = q)∧g.get q=some (eC (runS W i s).l)∧g.next=h.next) ?_ 64 (by have:rounds=18446744073709551616:=rfl;omega) ⟨0,Nat.zero_add _,x3,x4,x6,x7,x11,x12,Kept.refl _ _,hq,rfl⟩
 rintro k y g ⟨i,hik,y3,y4,y6,y7,y11,y12,K,gq,gn⟩
 unfold t153l153_1111010
 have l64:bin Tryd.prog .lss 3 (ak i) (.int .i64 64)=some (.bool (decide (i<64))):=lss3 i 64
 simp -implicitDefEqProofs only [y12,l64,ad,af]
 by_cases hi:i<64
 ·have hg:4≤g.n0:=by rw [K.n0];exact hG
  have ixb:bI 64 1 (ptr b 0) (ak i)=some (ptr b i):=by rw [idxN hi,Nat.zero_add]
  have ixk:bI 64 1 (ptr kb 0) (ak i)=some (ptr kb i):=by rw [idxN hi,Nat.zero_add]
  have lw:ld1 (ptr b i) g=some (wv (W.getD i 0),g):=aQ (Kept.dX K hw hqb) (wTab_at (by omega)) rfl
  have lk:ld1 (ptr kb i) g=some (wv (rkW.getD i 0),g):=aQ (Kept.dX K hk hqk) (by
   rw [List.getElem?_map,List.getD_eq_getElem?_getD,List.getElem?_eq_getElem (by rw [rkW_len];exact hi)]
   rfl) rfl
  have ix : ∀ j,j<8→bI 8 1 (ptr q 0) (ak j)=some (ptr q j):=fun j hj=>by rw [idxN hj,Nat.zero_add]
  have i0:bI 8 1 (ptr q 0) (.int .i64 0)=some (ptr q 0):=ix 0 (by decide)
  have i1:bI 8 1 (ptr q 0) (.int .i64 1)=some (ptr q 1):=ix 1 (by decide)
  have i2:bI 8 1 (ptr q 0) (.int .i64 2)=some (ptr q 2):=ix 2 (by decide)
  have i3:bI 8 1 (ptr q 0) (.int .i64 3)=some (ptr q 3):=ix 3 (by decide)
  have i4:bI 8 1 (ptr q 0) (.int .i64 4)=some (ptr q 4):=ix 4 (by decide)
  have i5:bI 8 1 (ptr q 0) (.int .i64 5)=some (ptr q 5):=ix 5 (by decide)
  have i6:bI 8 1 (ptr q 0) (.int .i64 6)=some (ptr q 6):=ix 6 (by decide)
  have i7:bI 8 1 (ptr q 0) (.int .i64 7)=some (ptr q 7):=ix 7 (by decide)
  generalize hs:runS W i s=u at *
  have d0:ld1 (ptr q 0) g=some (wv u.a,g):=aQ gq rfl rfl
  have d1:ld1 (ptr q 1) g=some (wv u.b,g):=aQ gq rfl rfl
  have d2:ld1 (ptr q 2) g=some (wv u.c,g):=aQ gq rfl rfl
  have d3:ld1 (ptr q 3) g=some (wv u.d,g):=aQ gq rfl rfl
  have d4:ld1 (ptr q 4) g=some (wv u.e,g):=aQ gq rfl rfl
  have d5:ld1 (ptr q 5) g=some (wv u.f,g):=aQ gq rfl rfl
  have d6:ld1 (ptr q 6) g=some (wv u.g,g):=aQ gq rfl rfl
  have d7:ld1 (ptr q 7) g=some (wv u.i,g):=aQ gq rfl rfl
  obtain ⟨re6,re11,re25,_⟩:=rots161 hg u.e
  obtain ⟨_,_,_,ra2,ra13,ra22⟩:=rots161 hg u.a
  generalize hu:stepS u (rkW.getD i 0) (W.getD i 0)=u' at *
  have ok:=St.l_ok u'
  obtain ⟨g2,e2,k2,t2,_,n2⟩:=aS (n:=8) (k':=eC u'.l) gq (by rw [K.n0];exact hq0) rfl rfl ok.2.2
  have bl:=bld8 (t1S u (rkW.getD i 0) (W.getD i 0)+t2S u) u.a u.b u.c (u.d+t1S u (rkW.getD i 0) (W.getD i 0)) u.e u.f u.g
  have e2:eT 8 (ptr q 0) (.agg (eC [t1S u (rkW.getD i 0) (W.getD i 0)+t2S u,u.a,u.b,u.c,u.d+t1S u (rkW.getD i 0) (W.getD i 0),u.e,u.f,u.g]).toArray) g=some (undef,g2):=by rw [←hu] at e2;exact e2
  have ht1:wv (u.i+(dC u.e 6 ^^^ dC u.e 11 ^^^ dC u.e 25)+(u.g ^^^ (u.e &&& (u.f ^^^ u.g)))+rkW.getD i 0+W.getD i 0)=wv (t1S u (rkW.getD i 0) (W.getD i 0)):=rfl
  have ht2:wv ((dC u.a 2 ^^^ dC u.a 13 ^^^ dC u.a 22)+((u.a &&& u.b) ||| (u.c &&& (u.a ||| u.b))))=wv (t2S u):=rfl
  simp -implicitDefEqProofs only [decide_eq_true hi,y4,y7,y11,y12,i0,i1,i2,i3,i4,i5,i6,i7,d0,d1,d2,d3,d4,d5,d6,d7,w_not,w_and,w_xor,ch_eq,maj_eq,re6,re11,re25,ra2,ra13,ra22,ixb,ixk,lw,lk,w_add,ht1,ht2,bl,e2,chkW,Bool.and_self,Bool.and_true,fc (show i+1≤9223372036854775807 by omega),ad,af]
  refine dU.next (k-1) (by omega) ⟨i+1,by omega,y3,y4,y6,y7,y11,rfl,K.trans k2,?_,n2.trans gn⟩
  rw [t2,runS,hs,hu]
 ·have:i=64:=by omega
  subst this
  simp -implicitDefEqProofs only [decide_eq_false hi,ad,af]
  exact dU.out 2 ⟨rfl,y3,y6,y11,K,gq,gn⟩
end Go.Proofs.YtdnahgfgoajmcaaDoor

namespace Go.Proofs.YtdnahgfgoajmcaaDoor
open Go Go.Abs
attribute [local congr] aq
theorem wvs_at {L:List (BitVec 32)} {i:Nat} (hi:i<L.length):(eC L)[i]? = some (wv (L.getD i 0)):=by
 rw [List.getElem?_map,List.getD_eq_getElem?_getD,List.getElem?_eq_getElem hi]
 rfl
theorem rnd3 {h:ab} {p q:Nat} {S L:List (BitVec 32)} (hS:S.length=8) (hL:L.length=8) (hp:h.get p=some (eC S)) (hp0:h.n0≤p) (hq:h.get q=some (eC L)) (hne : ¬q=p)
  {p6:Value} {x:Nat→Value} (x3:x 3=ptr p 0) (x6:x 6=p6) (x11:x 11=ptr q 0) (x19:x 19=ak 0) :
  Fin 206 (fun ex y g=>ex = .exit 4∧y 3=ptr p 0∧y 6=p6∧Kept h g (· = p)∧g.get p=some (eC (addS S L))∧g.next=h.next) (iter (av Tryd.prog CW (partOf Tryd.f153 [1,1,1,1,1,0,1,0,0])) rounds (aO 206 x) h):=by
 have hm0:mixS S L 0=S:=rfl
 have hm8:mixS S L 8=addS S L:=by
  obtain ⟨a,b,c,d,e,f,g,j,rfl⟩:=eight hS
  obtain ⟨a',b',c',d',e',f',g',j',rfl⟩:=eight hL
  rfl
 refine bP (t153l153_11111010_eq CW) (Inv:=fun k y g => ∃ i,i+k=8∧y 3=ptr p 0∧y 6=p6∧y 11=ptr q 0∧y 19=ak i∧Kept h g (· = p)∧g.get p=some (eC (mixS S L i))∧g.next=h.next) ?_ 8 (by have:rounds=18446744073709551616:=rfl;omega) ⟨0,Nat.zero_add _,x3,x6,x11,x19,Kept.refl _ _,by rw [hm0];exact hp,rfl⟩
 rintro k y g ⟨i,hik,y3,y6,y11,y19,K,gp,gn⟩
 unfold gW
 have l8:bin Tryd.prog .lss 3 (ak i) (.int .i64 8)=some (.bool (decide (i<8))):=lss3 i 8
 simp -implicitDefEqProofs only [y19,l8,ad,af]
 by_cases hi:i<8
 ·obtain ⟨m1,m2,m3⟩:=mix_step hS hL hi
  have ixp:bI 8 1 (ptr p 0) (ak i)=some (ptr p i):=by rw [idxN hi,Nat.zero_add]
  have ixq:bI 8 1 (ptr q 0) (ak i)=some (ptr q i):=by rw [idxN hi,Nat.zero_add]
  have lp:ld1 (ptr p i) g=some (wv (S.getD i 0),g):=by
   rw [←m1]
   exact aQ gp (wvs_at (by omega)) rfl
  have lq:ld1 (ptr q i) g=some (wv (L.getD i 0),g):=aQ (Kept.dX K hq hne) (wvs_at (by omega)) rfl
  obtain ⟨g2,e2,k2,t2,_,n2⟩:=stored (o:=i) (v:=wv (S.getD i 0+L.getD i 0)) gp (by rw [K.n0];exact hp0) (by rw [List.length_map,m3];omega) rfl rfl
  simp -implicitDefEqProofs only [decide_eq_true hi,y3,y11,y19,ixp,ixq,lp,lq,w_add,e2,fc (show i+1≤9223372036854775807 by omega),ad,af]
  refine dU.next (k-1) (by omega) ⟨i+1,by omega,y3,y6,y11,rfl,K.trans k2,?_,n2.trans gn⟩
  rw [t2,←m2]
  show some ((List.map wv (mixS S L i)).set i (wv (S.getD i 0+L.getD i 0)))=some (List.map wv ((mixS S L i).set i (S.getD i 0+L.getD i 0)))
  rw [List.map_set]
 ·have:i=8:=by omega
  subst this
  simp -implicitDefEqProofs only [decide_eq_false hi,ad,af]
  rw [hm8] at gp
  exact dU.out 4 ⟨rfl,y3,y6,K,gp,gn⟩
theorem is153:cd Tryd.prog 153 Tryd.f153:=⟨by kernel_rfl,by kernel_rfl,by kernel_rfl,by kernel_rfl⟩
theorem aggT8:aggT Tryd.prog 176=some true:=by kernel_rfl
theorem sizT8:cz Tryd.prog 176=some 8:=by kernel_rfl
theorem results153:Tryd.f153.results.toList = [.cell 6 176]:=by kernel_rfl
set_option maxRecDepth 100000 in
theorem r153 {h:ab} (hG:4≤h.n0) {S:List (BitVec 32)} (hS:S.length=8) {B:List Nat} (hBl:B.length=64) {a:Option Addr} {c:Nat} (hB:au a 64 h=some B) :
  ∃ h',CW 153 [.agg (eC S).toArray,.agg (eC rkW).toArray,.slice a 64 c] h=some (.agg (eC (fw S B)).toArray,h')∧Old h h':=by
 have hS2:=dQ S
 have hK2:=dQ rkW
 have b1:=fT h _ hS2.2
 have o1:Old h (h.alloc (eC S)):=Kept.alloc _ _ _
 have g1:(h.alloc (eC S)).get h.next=some (eC S):=by rw [ab.aK,if_pos rfl]
 have n1:(h.alloc (eC S)).next=h.next+1:=ab.cn ..
 generalize h.alloc (eC S)=h1 at *
 have b2:=fT h1 _ hK2.2
 have o2:Old h1 (h1.alloc (eC rkW)):=Kept.alloc _ _ _
 have g2:(h1.alloc (eC rkW)).get h1.next=some (eC rkW):=by rw [ab.aK,if_pos rfl]
 have n2:(h1.alloc (eC rkW)).next=h1.next+1:=ab.cn ..
 generalize h1.alloc (eC rkW)=h2 at *
 obtain ⟨h3,z3,o3,g3,n3⟩:=fresh (List.replicate 8 (.int .u32 0)) h2
 obtain ⟨h4,z4,o4,g4,n4⟩:=fresh (List.replicate 64 (.int .u32 0)) h3
 have O4:Old h h4:=((o1.trans o2).trans o3).trans o4
 have hlt : ∀ y,a=some y → ¬y.block=h3.next:=fun y hy e=>by
  obtain ⟨b',off',s',k',hx,hk',_⟩:=(aE hB).2.2 (by decide)
  rw [hy] at hx
  cases hx
  have:=h.aP hk'
  have:b'=h3.next:=e
  omega
 have hn0:=h.ax
 have key : ∃ o:Out,t153 CW (.agg (eC S).toArray) (.agg (eC rkW).toArray) (.slice a 64 c) h=o ∧ ∃ h',o=some (.agg (eC (fw S B)).toArray,h')∧Old h h':=by
  refine ⟨_,rfl,?_⟩
  unfold t153
  simp -implicitDefEqProofs only [b1,b2,z3,z4,ad,af]
  refine bO (Q:=fun o:Out => ∃ h',o=some (.agg (eC (fw S B)).toArray,h')∧Old h h') (rnd1 (b:=h3.next) (by rw [O4.n0];exact hG) hBl (Old.bytes O4 hB) hlt (by rw [O4.n0];omega) g4 (p3:=ptr h.next 0) (p4:=ptr h1.next 0) (p6:=ptr h2.next 0) rfl rfl rfl rfl rfl rfl) ?_
  rintro _ y g5 ⟨rfl,y3,y4,y6,y7,K5,G5,N5⟩
  simp -implicitDefEqProofs only [bB,b153_4,if_true,t153k153_2_eq]
  unfold t153k153_2
  have O5:Old h3 g5:=Old.bA o4 K5 (Nat.le_refl _)
  have OO5:Old h g5:=((o1.trans o2).trans o3).trans O5
  have P5:g5.get h.next=some (eC S):=Old.get ((o2.trans o3).trans O5) g1
  have L5:=bh (n:=8) P5 (by rw [List.length_map,hS]) hS2.1
  obtain ⟨h6,z6,o6,g6,n6⟩:=fresh (List.replicate 8 (.int .u32 0)) g5
  obtain ⟨h7,e7,k7,g7,_,n7⟩:=aS (n:=8) (k':=eC S) g6 (by rw [o6.n0];exact g5.ax) rfl (by rw [List.length_map,hS]) hS2.2
  have O7:Old g5 h7:=Old.bA o6 k7 (Nat.le_refl _)
  simp -implicitDefEqProofs only [y3,L5,z6,e7,ad]
  have hSl:eC S=eC (St.l ⟨S.getD 0 0,S.getD 1 0,S.getD 2 0,S.getD 3 0,S.getD 4 0,S.getD 5 0,S.getD 6 0,S.getD 7 0⟩):=by
   obtain ⟨a,b,c,d,e,f,g,j,rfl⟩:=eight hS
   rfl
  have n5:=O5.next
  refine bO (Q:=fun o:Out => ∃ h',o=some (.agg (eC (fw S B)).toArray,h')∧Old h h') (rnd2 (h:=h7) (b:=h3.next) (kb:=h1.next) (q:=g5.next) (p:=h.next) (by rw [O7.n0,OO5.n0];exact hG) (W:=extW 48 (sch0 B)) (by rw [extW_len];simp [sch0]) (Old.get O7 G5) (Old.get O7 (Old.get ((o3.trans O5)) g2)) (by rw [O7.n0];exact g5.ax) (by omega) (by omega) (by rw [g7];exact congrArg some hSl) (p6:=ptr h2.next 0) y3 y4 y6 y7 rfl rfl) ?_
  rintro _ y' g8 ⟨rfl,y3',y6',y11',K8,G8,N8⟩
  simp -implicitDefEqProofs only [bB,b153_8,if_true,t153k153_6_eq]
  unfold t153k153_6
  simp -implicitDefEqProofs only [ad]
  have O8:Old g5 g8:=Old.bA O7 K8 (Nat.le_refl _)
  refine bO (Q:=fun o:Out => ∃ h',o=some (.agg (eC (fw S B)).toArray,h')∧Old h h') (rnd3 (h:=g8) (p:=h.next) (q:=g5.next) hS rfl (Old.get O8 P5) (by rw [O8.n0,OO5.n0];omega) G8 (by have:=OO5.next;omega) (p6:=ptr h2.next 0) y3' y6' y11' rfl) ?_
  rintro _ y9 g9 ⟨rfl,y39,y69,K9,G9,N9⟩
  simp -implicitDefEqProofs only [bB,b153_22,if_true,t153k153_20_eq]
  unfold t153k153_20
  have hcomp:addS S (runS (extW 48 (sch0 B)) 64 ⟨S.getD 0 0,S.getD 1 0,S.getD 2 0,S.getD 3 0,S.getD 4 0,S.getD 5 0,S.getD 6 0,S.getD 7 0⟩).l=fw S B:=rfl
  rw [hcomp] at G9
  have cl:(eC (fw S B)).length=8:=by rw [List.length_map,compS_len hS]
  have L9:=bh (n:=8) G9 cl (dQ _).1
  have O9:Old h g9:=(OO5.trans O8).also K9 (fun d hd e=>by omega)
  have q3:g9.get h2.next=some (List.replicate 8 (.int .u32 0)):=Kept.dX K9 (Old.get O8 (Old.get O5 g3)) (by omega)
  obtain ⟨h10,e10,k10,g10,_,_⟩:=aS (n:=8) (k':=eC (fw S B)) q3 (by rw [O9.n0];omega) rfl cl (dQ _).2
  have L10:=bh (n:=8) g10 cl (dQ _).1
  simp -implicitDefEqProofs only [y39,L9,y69,e10,ad]
  refine ⟨h10,?_,Old.bA O9 k10 (by omega)⟩
  exact cW results153 aggT8 sizT8 (show 6<206 by decide) _ (by
   show cT 8 (y9 6) h10=_
   rw [y69]
   exact L10)
 obtain ⟨o9,e,h',e',r⟩:=key
 exact ⟨h',aC is153 hG rfl ((t153_eq _ _ _ _ _).trans (e.trans e')),r⟩
end Go.Proofs.YtdnahgfgoajmcaaDoor

namespace Go.Proofs.YtdnahgfgoajmcaaDoor
open Go Go.Abs
attribute [local congr] aq
theorem fd1 {h0 h:ab} {v:Value} {l:List Nat} {z:Nat} (K:Old h0 h) (o:ep h h0.next v l) (hl:l.length≤1000000) (hz:(l.length+z)%64=56) (hz2:z<64) {q0 q4 q5 q6:Value} {x:Nat→Value} (x0:x 0=q0) (x4:x 4=q4) (x5:x 5=q5) (x6:x 6=q6) (x7:x 7=v) :
  Fin 74 (fun ex y g=>ex = .exit 0∧y 0=q0∧y 4=q4∧y 5=q5∧y 6=q6∧ep g h0.next (y 7) (l++List.replicate z 0)∧Old h0 g) (iter (av Tryd.prog CW (partOf Tryd.f136 [1,1,0,0,0])) rounds (aO 74 x) h):=by
 refine bP (t136l136_1100_eq CW) (Inv:=fun k y g => ∃ l',y 0=q0∧y 4=q4∧y 5=q5∧y 6=q6∧ep g h0.next (y 7) l'∧Old h0 g∧(l'.length+k)%64=56∧k<64∧l'++List.replicate k 0=l++List.replicate z 0∧l'.length≤1000064-k) ?_ z (by have:rounds=18446744073709551616:=rfl;omega) ⟨l,x0,x4,x5,x6,by rw [x7];exact o,K,hz,hz2,rfl,by omega⟩
 rintro k y g ⟨l',y0,y4,y5,y6,O,K',hm,hk,hc,hb⟩
 unfold t136l136_1100
 obtain ⟨a,c,hv,s,_,_⟩:=O.bytes
 have hll:cN (y 7)=some (ak l'.length):=by rw [hv];rfl
 have hr:bin Tryd.prog .rem 3 (ak l'.length) (.int .i64 64)=some (ak (l'.length%64)):=by
  unfold ak
  rw [bin_rem Tryd.prog 3 .i64 _ 64 (by decide)]
  rfl
 cases k with
 |zero=>
  have h56:l'.length%64=56:=by omega
  have hn:bin Tryd.prog .neq 3 (ak (l'.length%64)) (.int .i64 56)=some (.bool false):=by
   unfold ak
   rw [a7,h56]
   rfl
  simp -implicitDefEqProofs only [hll,hr,hn,ad,af]
  refine dU.out 0 ⟨rfl,y0,y4,y5,y6,?_,K'⟩
  rw [←hc,List.replicate_zero,List.append_nil]
  exact O
 |succ k=>
  have h56:l'.length%64≠56:=by omega
  have hn:bin Tryd.prog .neq 3 (ak (l'.length%64)) (.int .i64 56)=some (.bool true):=by
   unfold ak
   rw [a7]
   congr 2
   simp only [bne_iff_ne,ne_eq]
   omega
  have b0:cO 1 (.int .u8 0) 1 [(0,.int .u8 0)] g=some (.slice (some ⟨g.next,0,none⟩) 1 1,g.alloc [u8 0]):=bsl1 g 0
  obtain ⟨v',g2,e2,O2,K2⟩:=app_one (x:=0) K' O (by decide) (by omega)
  simp -implicitDefEqProofs only [hll,hr,hn,b0,e2,ad,af]
  refine dU.next k (by omega) ⟨l' ++ [0],y0,y4,y5,y6,O2,K2,by simp;omega,by omega,?_,by simp;omega⟩
  rw [←hc,List.append_assoc]
  rfl
theorem fd2 {h0 h:ab} {v:Value} {l:List Nat} {N:Nat} (hN:N<18446744073709551616) (K:Old h0 h) (o:ep h h0.next v l) (hl:l.length≤1000064) {q4 q5 q6:Value} {x:Nat→Value} (x4:x 4=q4) (x5:x 5=q5) (x6:x 6=q6) (x7:x 7=v) (x8:x 8 = .int .u64 (N:Int)) (x9:x 9 = .int .i64 7) :
  Fin 74 (fun ex y g=>ex = .exit 2∧y 4=q4∧y 5=q5∧y 6=q6∧ep g h0.next (y 7) (l++fi 8 N)∧Old h0 g) (iter (av Tryd.prog CW (partOf Tryd.f136 [1,1,1,1,0,1,0,0])) rounds (aO 74 x) h):=by
 refine bP (t136l136_1111010_eq CW) (Inv:=fun k y g => ∃ l',k≤8∧y 4=q4∧y 5=q5∧y 6=q6∧y 8 = .int .u64 (N:Int)∧y 9 = .int .i64 ((k:Int)-1)∧ep g h0.next (y 7) l'∧Old h0 g∧l'++fi k N=l++fi 8 N∧l'.length≤1000072) ?_ 8 (by have:rounds=18446744073709551616:=rfl;omega) ⟨l,by omega,x4,x5,x6,x8,x9,by rw [x7];exact o,K,rfl,by omega⟩
 rintro k y g ⟨l',hk,y4,y5,y6,y8,y9,O,K',hc,hb⟩
 unfold t136l136_1111010
 have hlen:l'.length+k=l.length+8:=by
  have:=congrArg List.length hc
  simpa [bH] using this
 cases k with
 |zero=>
  have y9':y 9 = .int .i64 (-1):=y9
  have hg:bin Tryd.prog .geq 3 (.int .i64 (-1)) (.int .i64 0)=some (.bool false):=by rw [bC];rfl
  simp -implicitDefEqProofs only [y9',hg,ad,af]
  refine dU.out 2 ⟨rfl,y4,y5,y6,?_,K'⟩
  rw [←hc,fi,List.append_nil]
  exact O
 |succ k=>
  have y9':y 9=ak k:=by
   rw [y9]
   unfold ak
   congr 1
   omega
  have hg:bin Tryd.prog .geq 3 (ak k) (.int .i64 0)=some (.bool true):=by
   unfold ak
   rw [bC,decide_eq_true (by omega)]
  have cu:cvI .u64 (ak k) g=some (.int .u64 (k:Int),g):=by
   unfold ak
   rw [c7,wrap_u64 (by omega) (by omega)]
  have ml:bin Tryd.prog .mul 111 (.int .u64 8) (.int .u64 (k:Int))=some (.int .u64 ((8*k:Nat):Int)):=by
   rw [gU,show (8:Int)*(k:Int)=((8*k:Nat):Int) by omega,wrap_u64 (by omega) (by omega)]
  have sh:bin Tryd.prog .shr 32 (.int .u64 (N:Int)) (.int .u64 ((8*k:Nat):Int))=some (.int .u64 ((N/2^(8*k):Nat):Int)):=dR Tryd.prog 32 (by show 8*k≤64;omega)
  have c8:cvI .u8 (.int .u64 ((N/2^(8*k):Nat):Int)) g=some (u8 (N/256^k%256),g):=by
   rw [c7,fI,Nat.pow_mul]
   rfl
  have b1:=bsl1 g (N/256^k%256)
  obtain ⟨v',g2,e2,O2,K2⟩:=app_one (x:=N/256^k%256) K' O (Nat.mod_lt _ (by decide)) (by omega)
  have sb:bin Tryd.prog .sub 3 (ak k) (.int .i64 1)=some (.int .i64 ((k:Int)-1)):=by
   unfold ak
   rw [eK,wrap_i64 (by omega) (by omega)]
  simp -implicitDefEqProofs only [y9',hg,y8,cu,ml,sh,c8,b1,e2,sb,ad,af]
  refine dU.next k (by omega) ⟨l' ++ [N/256^k%256],by omega,y4,y5,y6,y8,rfl,O2,K2,?_,by simp;omega⟩
  rw [←hc,List.append_assoc]
  rfl
end Go.Proofs.YtdnahgfgoajmcaaDoor

namespace Go.Proofs.YtdnahgfgoajmcaaDoor
open Go Go.Abs
attribute [local congr] aq
def fW:Nat→List Nat→List (BitVec 32)→List (BitVec 32)
 | 0,_,S=>S
 |t+1,m,S=>fW t (m.drop 64) (fw S (m.take 64))
theorem foldB_len : ∀ (t:Nat) (m:List Nat) (S:List (BitVec 32)),S.length=8→(fW t m S).length=8
 | 0,_,_,h=>h
 |t+1,m,S,h=>foldB_len t _ _ (compS_len h)
theorem ixT {N b:Nat} {j:Nat} (hj:j<N):bI N 1 (ptr b 0) (ak j)=some (ptr b j):=by rw [idxN hj,Nat.zero_add]
set_option maxRecDepth 100000 in
theorem fd3 {h:ab} (hG:4≤h.n0) {p kb t:Nat} {S:List (BitVec 32)} {m:List Nat} {a:Option Addr} {c:Nat} (hS:S.length=8) (hp:h.get p=some (eC S)) (hp0:h.n0≤p) (hk:h.get kb=some (eC rkW)) (hkp : ¬kb=p) (hm:au a (64*t) h=some m) (hg:gF a (64*t) c=true) (ha : ∀ y,a=some y → ¬y.block=p) (ht:t≤100000)
  {q6:Value} {x:Nat→Value} (x4:x 4=ptr kb 0) (x5:x 5=ptr p 0) (x6:x 6=q6) (x7:x 7 = .slice a (64*t) c) (x10:x 10=ak 0) :
  Fin 74 (fun ex y g=>ex = .exit 4∧y 5=ptr p 0∧y 6=q6∧Kept h g (· = p)∧g.get p=some (eC (fW t m S))) (iter (av Tryd.prog CW (partOf Tryd.f136 [1,1,1,1,1,0,1,0,0])) rounds (aO 74 x) h):=by
 have hml:m.length=64*t:=(aE hm).1
 refine bP (t136l136_11111010_eq CW) (Inv:=fun k y g => ∃ i S',i+k=t∧y 4=ptr kb 0∧y 5=ptr p 0∧y 6=q6∧y 7 = .slice a (64*t) c∧y 10=ak (64*i)∧S'.length=8∧Kept h g (· = p)∧g.get p=some (eC S')∧fW k (m.drop (64*i)) S'=fW t m S) ?_ t (by have:rounds=18446744073709551616:=rfl;omega) ⟨0,S,Nat.zero_add _,x4,x5,x6,x7,x10,hS,Kept.refl _ _,hp,rfl⟩
 rintro k y g ⟨i,S',hik,y4,y5,y6,y7,y10,hS',K,gp,hf⟩
 unfold hF
 have hll:cN (.slice a (64*t) c)=some (ak (64*t)):=rfl
 simp -implicitDefEqProofs only [y10,y7,hll,lss3,ad,af]
 cases k with
 |zero=>
  have hi : ¬64*i<64*t:=by omega
  simp -implicitDefEqProofs only [decide_eq_false hi,ad,af]
  exact dU.out 4 ⟨rfl,y5,y6,K,by rw [←hf];exact gp⟩
 |succ k=>
  have hi:64*i<64*t:=by omega
  have hgn:4≤g.n0:=by rw [K.n0];exact hG
  have l5:=bh (n:=8) gp (by rw [List.length_map,hS']) (dQ S').1
  have l4:=bh (n:=64) (Kept.dX K hk hkp) (by rw [List.length_map,rkW_len]) (dQ rkW).1
  have sl:au a (64*t) g=some m:=K.bytes hm (fun y hy _=>ha y hy)
  have a1:bin Tryd.prog .add 3 (ak (64*i)) (.int .i64 64)=some (ak (64*i+64)):=by
   unfold ak
   rw [bin_add,show ((64*i:Nat):Int)+64=((64*i+64:Nat):Int) by omega,wrap_i64 (by omega) (by omega)]
  obtain ⟨a2,c2,es,ss,gs,bs⟩:=slR_bytes (vl:=some (ak (64*i))) (vh:=some (ak (64*i+64))) (lo:=64*i) (hi:=64*i+64) hg sl (by omega) (by omega) (by
    have:=goodS_le hg
    unfold bE ak
    simp only
    rw [if_pos (by omega),Int.toNat_natCast]) (by
    unfold bE ak
    simp only
    rw [if_pos (by omega),Int.toNat_natCast])
  rw [show 64*i+64-64*i=64 by omega] at es ss
  have hBl:((m.drop (64*i)).take 64).length=64:=by rw [List.length_take,List.length_drop];omega
  obtain ⟨g2,e2,o2⟩:=r153 (h:=g) hgn hS' hBl (c:=c2) ss
  have cl:(eC (fw S' ((m.drop (64*i)).take 64))).length=8:=by rw [List.length_map,compS_len hS']
  obtain ⟨g3,e3,k3,g3',_,_⟩:=aS (n:=8) (k':=eC (fw S' ((m.drop (64*i)).take 64))) (Old.get o2 gp) (by rw [o2.n0,K.n0];exact hp0) (by rw [List.length_map,hS']) cl (dQ _).2
  simp -implicitDefEqProofs only [decide_eq_true hi,y4,y5,l5,l4,a1,es,e2,e3,ad,af]
  refine dU.next k (by omega) ⟨i+1,fw S' ((m.drop (64*i)).take 64),by omega,y4,y5,y6,y7,rfl,compS_len hS',(K.trans (o2.mono (fun _ _ h=>h.elim))).trans k3,g3',?_⟩
  rw [←hf,fW,List.drop_drop]
  rfl
theorem fd4 {h:ab} {b p:Nat} {S:List (BitVec 32)} (hS:S.length=8) (hp:h.get p=some (eC S)) (hpb:p≠b) (hb:h.n0≤b) (hw:h.get b=some (aV (digT S 0))) {q6:Value}
  {x:Nat→Value} (x5:x 5=ptr p 0) (x6:x 6=q6) (x11:x 11=ptr b 0) (x12:x 12=ak 0) :
  Fin 74 (fun ex y g=>ex = .exit 6∧y 6=q6∧y 11=ptr b 0∧Kept h g (· = b)∧g.get b=some (aV (digT S 32))) (iter (av Tryd.prog CW (partOf Tryd.f136 [1,1,1,1,1,1,1,0,1,0,0])) rounds (aO 74 x) h):=by
 refine bP (t136l136_1111111010_eq CW) (Inv:=fun k y g => ∃ j,j+k=32∧y 5=ptr p 0∧y 6=q6∧y 11=ptr b 0∧y 12=ak j∧Kept h g (· = b)∧g.get b=some (aV (digT S j))) ?_ 32 (by have:rounds=18446744073709551616:=rfl;omega) ⟨0,Nat.zero_add _,x5,x6,x11,x12,Kept.refl _ _,hw⟩
 rintro k y g ⟨j,hjk,y5,y6,y11,y12,K,gw⟩
 unfold fU
 have l32:bin Tryd.prog .lss 3 (ak j) (.int .i64 32)=some (.bool (decide (j<32))):=lss3 j 32
 simp -implicitDefEqProofs only [y12,l32,ad,af]
 by_cases hj:j<32
 ·have q1:bin Tryd.prog .quo 3 (ak j) (.int .i64 4)=some (ak (j/4)):=by
   unfold ak
   rw [bin_quo Tryd.prog 3 .i64 _ 4 (by decide),show Int.tdiv (j:Int) 4=((j/4:Nat):Int) from rfl,wrap_i64 (by omega) (by omega)]
  have r1:bin Tryd.prog .rem 3 (ak j) (.int .i64 4)=some (ak (j%4)):=by
   unfold ak
   rw [bin_rem Tryd.prog 3 .i64 _ 4 (by decide)]
   rfl
  have cu:cvI .u64 (ak (j%4)) g=some (.int .u64 ((j%4:Nat):Int),g):=by
   unfold ak
   rw [c7,wrap_u64 (by omega) (by omega)]
  have m1:bin Tryd.prog .mul 111 (.int .u64 8) (.int .u64 ((j%4:Nat):Int))=some (.int .u64 ((8*(j%4):Nat):Int)):=by
   rw [gU,show (8:Int)*((j%4:Nat):Int)=((8*(j%4):Nat):Int) by omega,wrap_u64 (by omega) (by omega)]
  have s1:bin Tryd.prog .sub 111 (.int .u64 24) (.int .u64 ((8*(j%4):Nat):Int))=some (.int .u64 ((24-8*(j%4):Nat):Int)):=by
   rw [eK,show (24:Int)-((8*(j%4):Nat):Int)=((24-8*(j%4):Nat):Int) by omega,wrap_u64 (by omega) (by omega)]
  have lp:ld1 (ptr p (j/4)) g=some (wv (S.getD (j/4) 0),g):=aQ (Kept.dX K hp hpb) (wvs_at (by omega)) rfl
  have sh:bin Tryd.prog .shr 174 (wv (S.getD (j/4) 0)) (.int .u64 ((24-8*(j%4):Nat):Int))=some (.int .u32 (((S.getD (j/4) 0).toNat/2^(24-8*(j%4)):Nat):Int)):=dR Tryd.prog 174 (by show 24-8*(j%4)≤32;omega)
  have c1:cvI .u8 (.int .u32 (((S.getD (j/4) 0).toNat/2^(24-8*(j%4)):Nat):Int)) g=some (u8 ((S.getD (j/4) 0).toNat/2^(24-8*(j%4))%256),g):=by
   rw [c7,fI]
   rfl
  obtain ⟨g2,e2,k2,t2,_,n2⟩:=stored (o:=j) (v:=u8 ((S.getD (j/4) 0).toNat/2^(24-8*(j%4))%256)) gw (by rw [K.n0];exact hb) (by rw [List.length_map,digT_len];omega) rfl rfl
  simp -implicitDefEqProofs only [decide_eq_true hj,y5,y11,y12,q1,r1,cu,m1,s1,ixT (show j/4<8 by omega),lp,sh,c1,ixT hj,e2,fc (show j+1≤9223372036854775807 by omega),ad,af]
  refine dU.next (k-1) (by omega) ⟨j+1,by omega,y5,y6,y11,rfl,K.trans k2,?_⟩
  rw [t2,digT]
  show some ((List.map u8 (digT S j)).set j (u8 ((S.getD (j/4) 0).toNat/2^(24-8*(j%4))%256)))=some (List.map u8 ((digT S j).set j ((S.getD (j/4) 0).toNat/2^(24-8*(j%4))%256)))
  rw [List.map_set]
 ·have:j=32:=by omega
  subst this
  simp -implicitDefEqProofs only [decide_eq_false hj,ad,af]
  exact dU.out 6 ⟨rfl,y6,y11,K,gw⟩
end Go.Proofs.YtdnahgfgoajmcaaDoor

namespace Go.Proofs.YtdnahgfgoajmcaaDoor
open Go Go.Abs
attribute [local congr] aq
theorem is136:cd Tryd.prog 136 Tryd.f136:=⟨by kernel_rfl,by kernel_rfl,by kernel_rfl,by kernel_rfl⟩
theorem results136:Tryd.f136.results.toList = [.cell 6 35]:=by kernel_rfl
def zerosN (n:Nat):Nat:=(119-n%64)%64
def padM (l:List Nat):List Nat:=((l ++ [128])++List.replicate (zerosN l.length) 0)++fi 8 (l.length*8)
def blocksN (l:List Nat):Nat:=(l.length+zerosN l.length+9)/64
theorem zerosN_spec (n:Nat):(n+1+zerosN n)%64=56∧zerosN n<64:=by
 unfold zerosN
 omega
theorem padM_len (l:List Nat):(padM l).length=64*blocksN l:=by
 have:=zerosN_spec l.length
 unfold padM blocksN
 simp only [List.length_append,List.length_replicate,bH,List.length_cons,List.length_nil]
 omega
def sumR (S:List (BitVec 32)) (l:List Nat):List Nat:=digT (fW (blocksN l) (padM l) S) 32
theorem sumR_ok (S:List (BitVec 32)) (l:List Nat):gz (sumR S l):=⟨digT_len _ 32,digT_bys _ 32⟩
set_option maxRecDepth 100000 in
theorem r136 {h:ab} (hG:4≤h.n0) {S:List (BitVec 32)} (hS:S.length=8) {a:Option Addr} {n c:Nat} {l:List Nat} (hl:au a n h=some l) (hn:n≤20000) :
  ∃ h',CW 136 [.slice a n c,.agg (eC rkW).toArray,.agg (eC S).toArray] h=some (.agg (aV (sumR S l)).toArray,h')∧Old h h':=by
 have hlen:l.length=n:=(aE hl).1
 have hS2:=dQ S
 have hK2:=dQ rkW
 have b1:=fT h _ hK2.2
 have o1:Old h (h.alloc (eC rkW)):=Kept.alloc _ _ _
 have g1:(h.alloc (eC rkW)).get h.next=some (eC rkW):=by rw [ab.aK,if_pos rfl]
 have n1:(h.alloc (eC rkW)).next=h.next+1:=ab.cn ..
 generalize h.alloc (eC rkW)=h1 at *
 have b2:=fT h1 _ hS2.2
 have o2:Old h1 (h1.alloc (eC S)):=Kept.alloc _ _ _
 have g2:(h1.alloc (eC S)).get h1.next=some (eC S):=by rw [ab.aK,if_pos rfl]
 have n2:(h1.alloc (eC S)).next=h1.next+1:=ab.cn ..
 generalize h1.alloc (eC S)=h2 at *
 obtain ⟨h3,z3,o3,g3,n3⟩:=fresh (List.replicate 32 (.int .u8 0)) h2
 have O3:Old h h3:=(o1.trans o2).trans o3
 have b4:=bsl_bytes h3
 have o4:Old h3 (h3.alloc []):=Kept.alloc _ _ _
 have w4:ep (h3.alloc []) h3.next (.slice (some ⟨h3.next,0,none⟩) 0 0) []:=⟨OwnC.empty _ (Nat.le_refl _),by simp⟩
 obtain ⟨v5,h5,e5,w5,o5⟩:=app_sl (c:=c) o4 w4 (Old.bytes (O3.trans o4) hl) (by show 0+n≤100000000;omega)
 rw [List.nil_append] at w5
 have b6:cO 1 (.int .u8 0) 1 [(0,.int .u8 128)] h5=some (.slice (some ⟨h5.next,0,none⟩) 1 1,h5.alloc [u8 128]):=bsl1 h5 128
 obtain ⟨v6,h6,e6,w6,o6⟩:=app_one (x:=128) o5 w5 (by decide) (by omega)
 have zs:=zerosN_spec l.length
 have hn0:=h.ax
 have key : ∃ o:Out,t136 CW (.slice a n c) (.agg (eC rkW).toArray) (.agg (eC S).toArray) h=o ∧ ∃ h',o=some (.agg (aV (sumR S l)).toArray,h')∧Old h h':=by
  refine ⟨_,rfl,?_⟩
  unfold t136
  simp -implicitDefEqProofs only [b1,b2,z3,b4,e5,b6,e6,ad]
  refine bO (Q:=fun o:Out => ∃ h',o=some (.agg (aV (sumR S l)).toArray,h')∧Old h h') (fd1 (h0:=h3) (z:=zerosN l.length) o6 w6 (by simp;omega) (by simp only [List.length_append,List.length_cons,List.length_nil];omega) zs.2 (q0 := .slice a n c) (q4:=ptr h.next 0) (q5:=ptr h1.next 0) (q6:=ptr h2.next 0) rfl rfl rfl rfl rfl) ?_
  rintro _ y g7 ⟨rfl,y0,y4,y5,y6,w7,o7⟩
  simp -implicitDefEqProofs only [bB,b136_3,if_true,t136k136_2_eq]
  unfold t136k136_2
  have hll:cN (.slice a n c)=some (ak n):=rfl
  have cu:cvI .u64 (ak n) g7=some (.int .u64 (n:Int),g7):=by
   unfold ak
   rw [c7,wrap_u64 (by omega) (by omega)]
  have ml:bin Tryd.prog .mul 32 (.int .u64 (n:Int)) (.int .u64 8)=some (.int .u64 ((l.length*8:Nat):Int)):=by
   rw [gU,show (n:Int)*8=((l.length*8:Nat):Int) by omega,wrap_u64 (by omega) (by omega)]
  simp -implicitDefEqProofs only [y0,hll,cu,ml,ad,af]
  refine bO (Q:=fun o:Out => ∃ h',o=some (.agg (aV (sumR S l)).toArray,h')∧Old h h') (fd2 (h0:=h3) (N:=l.length*8) (by omega) o7 w7 (by simp only [List.length_append,List.length_cons,List.length_nil,List.length_replicate];omega) y4 y5 y6 rfl rfl rfl) ?_
  rintro _ y' g8 ⟨rfl,y4',y5',y6',w8,o8⟩
  simp -implicitDefEqProofs only [bB,b136_7,if_true,t136k136_5_eq]
  unfold t136k136_5
  simp -implicitDefEqProofs only [ad]
  obtain ⟨a8,c8,hv8,s8,gd8,hN8,_⟩:=w8.bytes
  have hpl:(((l ++ [128])++List.replicate (zerosN l.length) 0)++fi 8 (l.length*8)).length=64*blocksN l:=padM_len l
  rw [hpl] at hv8 s8 gd8
  have OO8:Old h g8:=O3.trans o8
  have P8:g8.get h1.next=some (eC S):=Old.get (o3.trans o8) g2
  have Q8:g8.get h.next=some (eC rkW):=Old.get ((o2.trans o3).trans o8) g1
  have hbl:blocksN l≤100000:=by unfold blocksN;omega
  refine bO (Q:=fun o:Out => ∃ h',o=some (.agg (aV (sumR S l)).toArray,h')∧Old h h') (fd3 (h:=g8) (by rw [OO8.n0];exact hG) (p:=h1.next) (kb:=h.next) (t:=blocksN l) hS P8 (by rw [OO8.n0];omega) Q8 (by omega) s8 gd8 (fun y hy e=>by have:=hN8 y hy;omega) hbl (q6:=ptr h2.next 0) y4' y5' y6' hv8 rfl) ?_
  rintro _ y9 g9 ⟨rfl,y59,y69,K9,G9⟩
  simp -implicitDefEqProofs only [bB,b136_13,if_true,t136k136_11_eq]
  unfold t136k136_11
  obtain ⟨h10,z10,o10,g10,n10⟩:=fresh (List.replicate 32 (.int .u8 0)) g9
  simp -implicitDefEqProofs only [z10,ad]
  have O9:Old h g9:=OO8.also K9 (fun d hd e=>by omega)
  have m9:=K9.next
  have m8:=o8.next
  refine bO (Q:=fun o:Out => ∃ h',o=some (.agg (aV (sumR S l)).toArray,h')∧Old h h') (fd4 (h:=h10) (b:=g9.next) (p:=h1.next) (foldB_len _ _ _ hS) (Old.get o10 G9) (by omega) (by rw [o10.n0];exact g9.ax) g10 (q6:=ptr h2.next 0) y59 y69 rfl rfl) ?_
  rintro _ y11 g11 ⟨rfl,y611,y1111,K11,G11⟩
  simp -implicitDefEqProofs only [bB,b136_21,if_true,t136k136_19_eq]
  unfold t136k136_19
  have dc:=aW (sumR_ok S l)
  have G11:g11.get g9.next=some (aV (sumR S l)):=G11
  have L11:=bh G11 dc.1 dc.2.1
  have O11:Old h g11:=(O9.trans o10).also K11 (fun d hd e=>by have:=O9.next;omega)
  have q3:g11.get h2.next=some (List.replicate 32 (.int .u8 0)):=Kept.dX K11 (Old.get o10 (Kept.dX K9 (Old.get o8 g3) (by omega))) (by omega)
  obtain ⟨h12,e12,k12,g12,_,_⟩:=aS (n:=32) (k':=aV (sumR S l)) q3 (by rw [O11.n0];omega) rfl dc.1 dc.2.2
  have L12:=bh g12 dc.1 dc.2.1
  simp -implicitDefEqProofs only [y1111,L11,y611,e12,ad]
  refine ⟨h12,?_,Old.bA O11 k12 (by omega)⟩
  exact cW results136 agg35 fK (show 6<74 by decide) _ (by
   show cT 32 (y11 6) h12=_
   rw [y611]
   exact L12)
 obtain ⟨o9,e,h',e',r⟩:=key
 exact ⟨h',aC is136 hG rfl ((t136_eq _ _ _ _ _).trans (e.trans e')),r⟩
end Go.Proofs.YtdnahgfgoajmcaaDoor

namespace Go.Proofs.YtdnahgfgoajmcaaDoor
open Go Go.Abs
attribute [local congr] aq
def GR (h:ab):Prop:=h.get 1=some (eC rkW)
theorem GR.bS {h h':ab} (x:GR h) (o:Old h h'):GR h':=Old.get o x
theorem is108:cd Tryd.prog 108 Tryd.f108:=⟨by kernel_rfl,by kernel_rfl,by kernel_rfl,by kernel_rfl⟩
theorem is72:cd Tryd.prog 72 Tryd.f72:=⟨by kernel_rfl,by kernel_rfl,by kernel_rfl,by kernel_rfl⟩
theorem is110:cd Tryd.prog 110 Tryd.f110:=⟨by kernel_rfl,by kernel_rfl,by kernel_rfl,by kernel_rfl⟩
theorem results108:Tryd.f108.results.toList = [.cell 2 35]:=by kernel_rfl
theorem results72:Tryd.f72.results.toList = [.cell 2 35]:=by kernel_rfl
theorem results110:Tryd.f110.results.toList = [.cell 4 35]:=by kernel_rfl
set_option maxRecDepth 100000 in
theorem r108 {h:ab} (hG:4≤h.n0) (hr:GR h) {a:Option Addr} {n c:Nat} {l:List Nat} (hl:au a n h=some l) (hn:n≤20000) :
  ∃ h',CW 108 [.slice a n c] h=some (.agg (aV (sumR H0 l)).toArray,h')∧Old h h':=by
 obtain ⟨h1,z1,o1,g1,n1⟩:=fresh (List.replicate 32 (.int .u8 0)) h
 have L1:=bh (n:=64) (Old.get o1 hr) (by rw [List.length_map,rkW_len]) (dQ rkW).1
 obtain ⟨h2,e2,o2⟩:=r136 (h:=h1) (by rw [o1.n0];exact hG) (S:=H0) rfl (c:=c) (Old.bytes o1 hl) hn
 have dc:=aW (sumR_ok H0 l)
 obtain ⟨h3,e3,k3,g3,_,_⟩:=aS (n:=32) (k':=aV (sumR H0 l)) (o2.get g1) (by rw [o2.n0,o1.n0];exact h.ax) rfl dc.1 dc.2.2
 have L3:=bh g3 dc.1 dc.2.1
 refine ⟨h3,aC is108 hG rfl ((t108_eq _ _ _).trans ?_),Old.bA (o1.trans o2) k3 (Nat.le_refl _)⟩
 unfold t108
 simp -implicitDefEqProofs only [z1,L1,bldH,e2,e3,ad,af]
 exact cW results108 agg35 fK (show 2<7 by decide) _ L3
def leafR (r:ao):List Nat:=sumR H0 ([0]++encRec r)
def nodeR (a b:List Nat):List Nat:=sumR H0 (([1]++a)++b)
set_option maxRecDepth 100000 in
theorem r72 {h:ab} (hG:4≤h.n0) (hr:GR h) (hz:GZ h) {r:ao} (w:r.Wf) (v:dK r=true) : ∃ h',CW 72 [.agg (recC r).toArray] h=some (.agg (aV (leafR r)).toArray,h')∧Old h h':=by
 obtain ⟨h1,b1,o1,g1,n1⟩:=dG h w
 obtain ⟨h2,z2,o2,g2,n2⟩:=fresh (List.replicate 32 (.int .u8 0)) h1
 have L2:=bh (o2.get g1) (bg w).1 (bg w).2.1
 have O2:=o1.trans o2
 obtain ⟨v3,h3,e3,w3,o3⟩:=r46 (h:=h2) (by rw [O2.n0];exact hG) (hz.bS O2) w v
 have O3:=O2.trans o3
 obtain ⟨a3,c3,rfl,s3,_,_⟩:=w3.bytes
 rw [encRec_len w] at s3 e3
 have b4:cO 1 (.int .u8 0) 1 [(0,.int .u8 0)] h3=some (.slice (some ⟨h3.next,0,none⟩) 1 1,h3.alloc [u8 0]):=bsl1 h3 0
 have o4:Old h3 (h3.alloc [u8 0]):=Kept.alloc _ _ _
 obtain ⟨v5,h5,e5,w5,o5⟩:=append_lit (c:=c3) (bytes1 h3 (x:=0) (by decide)) (Old.bytes o4 s3) (by decide) (by decide)
 have O5:=(O3.trans o4).trans o5
 obtain ⟨a5,c5,rfl,s5,_,_⟩:=w5.bytes
 have l5:([0]++encRec r).length=54:=by rw [List.length_append,encRec_len w];rfl
 rw [l5] at s5 e5
 obtain ⟨h6,e6,o6⟩:=r108 (h:=h5) (by rw [O5.n0];exact hG) (hr.bS O5) (c:=c5) s5 (by decide)
 have e6:CW 108 [.slice a5 54 c5] h5=some (.agg (aV (leafR r)).toArray,h6):=e6
 have O6:=O5.trans o6
 have dc:=aW (show gz (leafR r) from sumR_ok _ _)
 obtain ⟨h7,e7,k7,g7,_,_⟩:=aS (n:=32) (k':=aV (leafR r)) (Old.get (((o3.trans o4).trans o5).trans o6) g2) (by rw [O6.n0];have:=h.ax;have:=o1.next;omega) rfl dc.1 dc.2.2
 have L7:=bh g7 dc.1 dc.2.1
 refine ⟨h7,aC is72 hG rfl ((t72_eq _ _ _).trans ?_),Old.bA O6 k7 (by have:=o1.next;omega)⟩
 unfold t72
 simp -implicitDefEqProofs only [b1,z2,L2,e3,ext0,ext1,b4,e5,e6,e7,ad,af]
 exact cW results72 agg35 fK (show 2<14 by decide) _ L7
end Go.Proofs.YtdnahgfgoajmcaaDoor

namespace Go.Proofs.YtdnahgfgoajmcaaDoor
open Go Go.Abs
attribute [local congr] aq
set_option maxRecDepth 100000 in
theorem r110 {h:ab} (hG:4≤h.n0) (hr:GR h) {a b:List Nat} (wa:gz a) (wb:gz b) : ∃ h',CW 110 [.agg (aV a).toArray,.agg (aV b).toArray] h=some (.agg (aV (nodeR a b)).toArray,h')∧Old h h':=by
 have ca:=aW wa
 have cb:=aW wb
 have b1:=fT h _ ca.2.2
 have o1:Old h (h.alloc (aV a)):=Kept.alloc _ _ _
 have g1:(h.alloc (aV a)).get h.next=some (aV a):=by rw [ab.aK,if_pos rfl]
 have n1:(h.alloc (aV a)).next=h.next+1:=ab.cn ..
 generalize h.alloc (aV a)=h1 at *
 have b2:=fT h1 _ cb.2.2
 have o2:Old h1 (h1.alloc (aV b)):=Kept.alloc _ _ _
 have g2:(h1.alloc (aV b)).get h1.next=some (aV b):=by rw [ab.aK,if_pos rfl]
 have n2:(h1.alloc (aV b)).next=h1.next+1:=ab.cn ..
 generalize h1.alloc (aV b)=h2 at *
 obtain ⟨h3,z3,o3,g3,n3⟩:=fresh (List.replicate 32 (.int .u8 0)) h2
 have O3:=(o1.trans o2).trans o3
 have b5:cO 1 (.int .u8 0) 1 [(0,.int .u8 1)] h3=some (.slice (some ⟨h3.next,0,none⟩) 1 1,h3.alloc [u8 1]):=bsl1 h3 1
 have o4:Old h3 (h3.alloc [u8 1]):=Kept.alloc _ _ _
 have s1 : ∀ g,Old h1 g→au (some ⟨h.next,0,none⟩) 32 g=some a:=fun g o=>by
  have:=cK (off:=0) (n:=32) (s:=none) (Old.get o g1) (by rw [wa.1];decide) wa.2
  rw [List.drop_zero,List.take_of_length_le (by rw [wa.1];decide)] at this
  exact this
 have s2 : ∀ g,Old h2 g→au (some ⟨h1.next,0,none⟩) 32 g=some b:=fun g o=>by
  have:=cK (off:=0) (n:=32) (s:=none) (Old.get o g2) (by rw [wb.1];decide) wb.2
  rw [List.drop_zero,List.take_of_length_le (by rw [wb.1];decide)] at this
  exact this
 obtain ⟨v5,h5,e5,w5,o5⟩:=append_lit (c:=32) (bytes1 h3 (x:=1) (by decide)) (s1 _ ((o2.trans o3).trans o4)) (by decide) (by decide)
 have O5:=(o3.trans o4).trans o5
 have w5':ep h5 h3.next v5 ([1]++a):=w5.weak o4.next
 obtain ⟨v6,h6,e6,w6,o6⟩:=app_sl (h0:=h3) (c:=32) (o4.trans o5) w5' (s2 _ O5) (by rw [List.length_append,wa.1];decide)
 have OO6:Old h h6:=O3.trans o6
 obtain ⟨a6,c6,rfl,s6,_,_⟩:=w6.bytes
 have l6:(([1]++a)++b).length=65:=by rw [List.length_append,List.length_append,wa.1,wb.1];rfl
 rw [l6] at s6 e6
 obtain ⟨h7,e7,o7⟩:=r108 (h:=h6) (by rw [OO6.n0];exact hG) (hr.bS OO6) (c:=c6) s6 (by decide)
 have e7:CW 108 [.slice a6 65 c6] h6=some (.agg (aV (nodeR a b)).toArray,h7):=e7
 have O7:=OO6.trans o7
 have dc:=aW (show gz (nodeR a b) from sumR_ok _ _)
 obtain ⟨h8,e8,k8,g8,_,_⟩:=aS (n:=32) (k':=aV (nodeR a b)) (Old.get (o6.trans o7) g3) (by rw [O7.n0];have:=h.ax;omega) rfl dc.1 dc.2.2
 have L8:=bh g8 dc.1 dc.2.1
 refine ⟨h8,aC is110 hG rfl ((t110_eq _ _ _ _).trans ?_),Old.bA O7 k8 (by omega)⟩
 unfold t110
 simp -implicitDefEqProofs only [b1,b2,z3,arr32,b5,e5,e6,e7,e8,ad,af]
 exact cW results110 agg35 fK (show 4<11 by decide) _ L8
end Go.Proofs.YtdnahgfgoajmcaaDoor

namespace Go.Proofs.YtdnahgfgoajmcaaDoor
open Go Go.Abs
theorem wr_fold : ∀ (f:Nat) (s:HD) (l:List Nat),s.B.length=64→l.length≤f →
  (HD.wrN f s l).S=fW ((s.n%64+l.length)/64) (s.B.take (s.n%64)++l) s.S∧(HD.wrN f s l).B.take ((s.n+l.length)%64)=(s.B.take (s.n%64)++l).drop (64*((s.n%64+l.length)/64))∧(HD.wrN f s l).n=s.n+l.length∧(HD.wrN f s l).B.length=64:=by
 have base : ∀ (s:HD),s.B.length=64→s.S=fW ((s.n%64+([]:List Nat).length)/64) (s.B.take (s.n%64) ++ []) s.S∧s.B.take ((s.n+([]:List Nat).length)%64)=(s.B.take (s.n%64) ++ []).drop (64*((s.n%64+([]:List Nat).length)/64))∧s.n=s.n+([]:List Nat).length∧s.B.length=64:=by
  intro s hB
  have h0:(s.n%64+([]:List Nat).length)/64=0:=by simp only [List.length_nil];omega
  rw [h0]
  refine ⟨rfl,?_,rfl,hB⟩
  rw [List.append_nil,Nat.mul_zero,List.drop_zero]
  rfl
 intro f
 induction f with
 |zero=>
  intro s l hB hl
  have:l = []:=List.length_eq_zero_iff.1 (by omega)
  subst this
  exact base s hB
 |succ f ih=>
  intro s l hB hl
  rw [HD.wrN]
  by_cases e:l = []
  ·subst e
   rw [if_pos rfl]
   exact base s hB
  ·rw [if_neg e]
   have hp:0<l.length:=List.length_pos_iff.2 e
   have hm:s.n%64<64:=Nat.mod_lt _ (by decide)
   generalize hat:s.n%64=a at *
   generalize hk:min l.length (64-a)=k at *
   have hPB:(s.put l).B=s.B.take a++(l.take k++s.B.drop (a+k)):=by unfold HD.put;simp only [hat,hk]
   have hPn:(s.put l).n=s.n+k:=by unfold HD.put;simp only [hat,hk]
   have hPS:(s.put l).S=if a+k=64 then fw s.S (s.B.take a++(l.take k++s.B.drop (a+k))) else s.S:=by unfold HD.put;simp only [hat,hk]
   have hPl:(s.put l).B.length=64:=by
    rw [hPB]
    simp only [List.length_append,List.length_take,List.length_drop,hB]
    omega
   obtain ⟨i1,i2,i3,i4⟩:=ih (s.put l) (l.drop k) hPl (by rw [List.length_drop];omega)
   have hdl:(l.drop k).length=l.length-k:=List.length_drop
   rw [hPn,hdl] at i1 i2 i3
   by_cases hc:a+k=64
   ·have a0:(s.n+k)%64=0:=by omega
    have t1:(a+l.length)/64=(l.length-k)/64+1:=by omega
    have hB2:s.B.take a++(l.take k++s.B.drop (a+k))=(s.B.take a++l).take 64:=by
     rw [hc,List.drop_eq_nil_of_le (by omega),List.append_nil,List.take_append,List.length_take,hB,Nat.min_eq_left (by omega),List.take_take,Nat.min_eq_right (by omega),show 64-a=k by omega]
    have hD2:l.drop k=(s.B.take a++l).drop 64:=by
     have q:(s.B.take a).drop 64 = []:=List.drop_eq_nil_of_le (by rw [List.length_take];omega)
     rw [List.drop_append,List.length_take,hB,Nat.min_eq_left (by omega),q,List.nil_append,show 64-a=k by omega]
    rw [a0,List.take_zero,List.nil_append,Nat.zero_add] at i1 i2
    rw [hPS,if_pos hc,hB2] at i1
    refine ⟨?_,?_,by rw [i3];omega,i4⟩
    ·rw [i1,t1,fW,←hD2]
    ·rw [show (s.n+l.length)%64=(s.n+k+(l.length-k))%64 by congr 1;omega,i2,t1,hD2,List.drop_drop]
     congr 1
     omega
   ·have hkl:k=l.length:=by omega
    have d0:l.drop k = []:=List.drop_eq_nil_of_le (by omega)
    have a1:(s.n+k)%64=a+l.length:=by omega
    have t0:(a+l.length)/64=0:=by omega
    have z0:((s.n+k)%64+(l.length-k))/64=0:=by omega
    rw [z0] at i1 i2
    rw [d0] at i1 i2 i3 i4 ⊢
    rw [hPS,if_neg hc] at i1
    refine ⟨?_,?_,by rw [i3];omega,i4⟩
    ·rw [i1,t0]
     rfl
    ·rw [show (s.n+l.length)%64=(s.n+k+(l.length-k))%64 by congr 1;omega,i2,t0,a1,hPB]
     rw [Nat.mul_zero,List.drop_zero,List.drop_zero,List.append_nil,←List.append_assoc,List.take_append_of_le_length (by simp [hB];omega),List.take_of_length_le (by simp [hB];omega),hkl,List.take_length]
end Go.Proofs.YtdnahgfgoajmcaaDoor

namespace Go.Proofs.YtdnahgfgoajmcaaDoor
open Go Go.Abs
theorem foldB_add : ∀ (t u:Nat) (m:List Nat) (S:List (BitVec 32)),fW (t+u) m S=fW u (m.drop (64*t)) (fW t m S)
 | 0,u,m,S=>by rw [Nat.zero_add,Nat.mul_zero,List.drop_zero,fW]
 |t+1,u,m,S=>by
  rw [show t+1+u=(t+u)+1 by omega,fW,foldB_add t u,fW,List.drop_drop,show 64+64*t=64*(t+1) by omega]
theorem foldB_app : ∀ (t:Nat) (m x:List Nat) (S:List (BitVec 32)),64*t≤m.length→fW t (m++x) S=fW t m S
 | 0,_,_,_,_=>rfl
 |t+1,m,x,S,h=>by
  rw [fW,fW,List.take_append_of_le_length (by omega),List.drop_append_of_le_length (by omega),foldB_app t _ x _ (by rw [List.length_drop];omega)]
theorem beB8_at (v:Nat) {j:Nat} (hj:j<8):(fi 8 v)[j]? = some (v/2^(56-8*j)%256):=by
 match j,hj with
 | 0,_=>rfl
 | 1,_=>rfl
 | 2,_=>rfl
 | 3,_=>rfl
 | 4,_=>rfl
 | 5,_=>rfl
 | 6,_=>rfl
 | 7,_=>rfl
theorem padT_form {N:Nat} (h1:1≤N) (h2:N≤64) (v:Nat) : ∀ j,j≤8→padT N v j=(128::List.replicate (N-1) 0)++((fi 8 v).take j++List.replicate (72-N-j) 0)
 | 0,_=>by
   rw [padT,List.take_zero,List.nil_append,List.cons_append,List.replicate_append_replicate]
   congr 2
   omega
 |j+1,h=>by
  rw [padT,padT_form h1 h2 v j (by omega)]
  have hT:(fi 8 v).take (j+1)=(fi 8 v).take j ++ [v/2^(56-8*j)%256]:=by
   rw [List.take_add_one,beB8_at v (by omega)]
   rfl
  have hR:List.replicate (72-N-j) 0=0::List.replicate (72-N-(j+1)) 0:=by
   rw [show 72-N-j=(72-N-(j+1))+1 by omega,List.replicate_succ]
  rw [hT,hR,←List.append_assoc,set_nat (A:=(128::List.replicate (N-1) 0)++(fi 8 v).take j) (B':=(v/2^(56-8*j)%256)::List.replicate (72-N-(j+1)) 0) 0 (by simp [bH];omega) rfl]
  simp only [List.append_assoc,List.cons_append,List.nil_append]
theorem padOf_eq (n:Nat):ga n=([128]++List.replicate (zerosN n) 0)++fi 8 (n*8):=by
 have hz:64-(n+8)%64-1=zerosN n:=by unfold zerosN;omega
 have hm:(n+8)%64<64:=Nat.mod_lt _ (by decide)
 unfold ga
 rw [padT_form (by omega) (by omega) _ 8 (Nat.le_refl _),hz,List.take_of_length_le (l:=fi 8 (n*8)) (by rw [bH];decide)]
 have e:(128::List.replicate (zerosN n) 0)++(fi 8 (n*8)++List.replicate (72-(64-(n+8)%64)-8) 0)=(([128]++List.replicate (zerosN n) 0)++fi 8 (n*8))++List.replicate (72-(64-(n+8)%64)-8) 0:=by simp only [List.append_assoc,List.cons_append,List.nil_append]
 rw [e,List.take_append_of_le_length (by simp [bH];omega),List.take_of_length_le (by simp [bH];omega)]
theorem HD.sum_def (s:HD):s.sum=digT (s.wr (ga s.n)).S 32:=rfl
theorem HD.wr_def (s:HD) (l:List Nat):s.wr l=HD.wrN l.length s l:=rfl
theorem sum_same (l:List Nat):(HD0.wr l).sum=sumR H0 l:=by
 obtain ⟨a1,a2,a3,a4⟩:=wr_fold l.length HD0 l rfl (Nat.le_refl _)
 have n0:HD0.n=0:=rfl
 rw [n0] at a1 a2 a3
 have e0:(0:Nat)%64=0:=rfl
 rw [e0,List.take_zero,List.nil_append,Nat.zero_add] at a1 a2
 rw [Nat.zero_add] at a3
 obtain ⟨b1,_,_,_⟩:=wr_fold (ga l.length).length (HD0.wr l) (ga l.length) a4 (Nat.le_refl _)
 have a3:(HD0.wr l).n=l.length:=a3
 have a2:(HD0.wr l).B.take (l.length%64)=l.drop (64*(l.length/64)):=a2
 have a1:(HD0.wr l).S=fW (l.length/64) l H0:=a1
 rw [a3,a2,a1] at b1
 have hp:padM l=l++ga l.length:=by
  rw [padOf_eq]
  unfold padM
  simp only [List.append_assoc]
 have hpl:(ga l.length).length=zerosN l.length+9:=by
  rw [padOf_eq]
  simp [bH]
 have hb:blocksN l=l.length/64+(l.length%64+(ga l.length).length)/64:=by
  unfold blocksN
  rw [hpl]
  omega
 have q:(HD0.wr l).sum=digT ((HD0.wr l).wr (ga (HD0.wr l).n)).S 32:=HD.sum_def _
 rw [q,a3,HD.wr_def (HD0.wr l) (ga l.length),b1]
 unfold sumR
 rw [hb,hp,foldB_add,foldB_app (l.length/64) l (ga l.length) H0 (by omega),List.drop_append_of_le_length (by omega)]
end Go.Proofs.YtdnahgfgoajmcaaDoor

namespace Go.Proofs.YtdnahgfgoajmcaaDoor
open Go Go.Abs
theorem sum_congr {s u:HD} (hs:s.B.length=64) (hu:u.B.length=64) (hS:s.S=u.S) (hn:s.n=u.n) (hB:s.B.take (s.n%64)=u.B.take (u.n%64)):s.sum=u.sum:=by
 obtain ⟨a1,_⟩:=wr_fold (ga s.n).length s (ga s.n) hs (Nat.le_refl _)
 obtain ⟨b1,_⟩:=wr_fold (ga u.n).length u (ga u.n) hu (Nat.le_refl _)
 rw [HD.sum_def,HD.sum_def,HD.wr_def s (ga s.n),HD.wr_def u (ga u.n),a1,b1,hS,hB,hn]
theorem wr_two {s:HD} (hs:s.B.length=64) (a b:List Nat):((s.wr a).wr b).sum=(s.wr (a++b)).sum:=by
 obtain ⟨a1,a2,a3,a4⟩:=wr_fold a.length s a hs (Nat.le_refl _)
 rw [←HD.wr_def s a] at a1 a2 a3 a4
 obtain ⟨b1,b2,b3,b4⟩:=wr_fold b.length (s.wr a) b a4 (Nat.le_refl _)
 rw [←HD.wr_def (s.wr a) b] at b1 b2 b3 b4
 obtain ⟨c1,c2,c3,c4⟩:=wr_fold (a++b).length s (a++b) hs (Nat.le_refl _)
 rw [←HD.wr_def s (a++b)] at c1 c2 c3 c4
 rw [a3] at b1 b2 b3
 rw [a2] at b1 b2
 rw [List.length_append] at c1 c2 c3
 have hP:(s.B.take (s.n%64)).length=s.n%64:=by
  have:s.n%64<64:=Nat.mod_lt _ (by decide)
  rw [List.length_take,hs,Nat.min_eq_left (by omega)]
 have ht:(s.n%64+(a.length+b.length))/64=(s.n%64+a.length)/64+((s.n+a.length)%64+b.length)/64:=by omega
 have hle:64*((s.n%64+a.length)/64)≤(s.B.take (s.n%64)++a).length:=by
  rw [List.length_append,hP]
  omega
 have hd:(s.B.take (s.n%64)++(a++b)).drop (64*((s.n%64+a.length)/64))=(s.B.take (s.n%64)++a).drop (64*((s.n%64+a.length)/64))++b:=by
  rw [←List.append_assoc,List.drop_append_of_le_length hle]
 refine sum_congr b4 c4 ?_ (by rw [b3,c3];omega) ?_
 ·rw [b1,c1,a1,ht,foldB_add,hd,←List.append_assoc,foldB_app _ _ b _ hle]
 ·rw [b3,b2,c3,show s.n+(a.length+b.length)=s.n+a.length+b.length by omega,show (s.n+a.length+b.length)%64=(s.n+(a.length+b.length))%64 by congr 1;omega,c2,ht,Nat.mul_add,←List.drop_drop,hd]
theorem leaf_same (r:ao):leafD r=leafR r:=by
 unfold leafD leafR
 rw [wr_two rfl,sum_same]
theorem node_same (a b:List Nat):cV a b=nodeR a b:=by
 have h1:(HD0.wr [1]).B.length=64:=(wr_fold 1 HD0 [1] rfl (Nat.le_refl _)).2.2.2
 unfold cV nodeR
 rw [wr_two h1,wr_two rfl,sum_same,List.append_assoc]
end Go.Proofs.YtdnahgfgoajmcaaDoor

namespace Go.Proofs.YtdnahgfgoajmcaaDoor
open Go Go.Abs
attribute [local congr] aq
def halfG:Nat→Nat→Nat→Nat
 | 0,m,_=>m
 |f+1,m,n=>if 2*m<n then halfG f (2*m) n else m
def dj (n:Nat):Nat:=halfG 30 1 n
theorem is109:cd Tryd.prog 109 Tryd.f109:=⟨by kernel_rfl,by kernel_rfl,by kernel_rfl,by kernel_rfl⟩
theorem r109 {h:ab} (hG:4≤h.n0) {n:Nat} (hn:n≤1048576):CW 109 [ak n] h=some (ak (dj n),h):=by
 refine aC is109 hG rfl ((t109_eq _ _ _).trans ?_)
 unfold t109
 simp -implicitDefEqProofs only [ad]
 refine bO (n:=11) (fin:=fun ex y g=>ex = .exit 0∧g=h∧y 3=ak (dj n)) (Q:=fun o:Out=>o=some (ak (dj n),h))
  (bP (t109l109_1100_eq CW) (Inv:=fun k y g => ∃ m,y 0=ak n∧y 3=ak m∧g=h∧m≤1048576∧halfG k m n=dj n∧n≤m*2^(k+1)) ?_ 30 (by have:rounds=18446744073709551616:=rfl;omega) ⟨1,rfl,rfl,rfl,by decide,rfl,by omega⟩) ?_
 ·rintro k y g ⟨m,y0,y3,rfl,hm,hh,hb⟩
  unfold t109l109_1100
  have m1:bin Tryd.prog .mul 3 (.int .i64 2) (ak m)=some (ak (2*m)):=by
   unfold ak
   rw [gU,show (2:Int)*(m:Int)=((2*m:Nat):Int) by omega,wrap_i64 (by omega) (by omega)]
  have m2:bin Tryd.prog .mul 3 (ak m) (.int .i64 2)=some (ak (2*m)):=by
   unfold ak
   rw [gU,show (m:Int)*2=((2*m:Nat):Int) by omega,wrap_i64 (by omega) (by omega)]
  simp -implicitDefEqProofs only [y0,y3,m1,lss3,ad,af]
  by_cases hlt:2*m<n
  ·cases k with
   |zero=>omega
   |succ k=>
    simp -implicitDefEqProofs only [decide_eq_true hlt,y3,m2,ad,af]
    refine dU.next k (by omega) ⟨2*m,y0,rfl,rfl,by omega,?_,?_⟩
    ·rw [←hh,halfG,if_pos hlt]
    ·calc n≤m*2^(k+1+1):=hb
      _=2*m*2^(k+1):=by rw [Nat.pow_succ 2 (k+1),Nat.mul_comm (2^(k+1)) 2,←Nat.mul_assoc,Nat.mul_comm m 2]
  ·simp -implicitDefEqProofs only [decide_eq_false hlt,ad,af]
   refine dU.out 0 ⟨rfl,rfl,?_⟩
   rw [←hh]
   show y 3=_
   rw [y3]
   cases k with
   |zero=>rfl
   |succ k=>rw [halfG,if_neg hlt]
 ·rintro ex z g ⟨rfl,rfl,z3⟩
  simp -implicitDefEqProofs only [bB,b109_3,if_true,t109k109_2_eq]
  unfold t109k109_2
  rw [z3]
  rfl
end Go.Proofs.YtdnahgfgoajmcaaDoor

namespace Go.Proofs.YtdnahgfgoajmcaaDoor
open Go Go.Abs
attribute [local congr] aq
def lvl:Nat→Nat→Nat→Nat×Nat
 | 0,i,b=>(i,b)
 |f+1,i,b=>if i%2=0∧i≠0 then lvl f (i/2) (b/2) else (i,b)
theorem and1 {i:Nat} (hi:i≤1048576):bin Tryd.prog .and 3 (ak i) (.int .i64 1)=some (ak (i%2)):=by
 unfold ak
 rw [dO]
 unfold binI bitsA
 simp only
 have e1:BitVec.ofInt (IntKind.bits .i64) ((i:Nat):Int)=BitVec.ofNat 64 i:=by
  show BitVec.ofInt 64 _=_
  rw [BitVec.ofInt_natCast]
 have e2:BitVec.ofInt (IntKind.bits .i64) 1=BitVec.ofNat 64 1:=rfl
 rw [e1,e2]
 have e3:(BitVec.ofNat 64 i &&& BitVec.ofNat 64 1).toNat=i%2:=by
  rw [BitVec.toNat_and,BitVec.toNat_ofNat,BitVec.toNat_ofNat,Nat.mod_eq_of_lt (by omega),show 1%2^64=1 from rfl,Nat.and_one_is_mod]
 show some (Value.int .i64 (IntKind.wrap .i64 (((BitVec.ofNat 64 i &&& BitVec.ofNat 64 1).toNat:Nat):Int)))=_
 rw [e3,wrap_i64 (by omega) (by omega)]
theorem shr1 {i:Nat}:bin Tryd.prog .shr 3 (ak i) (.int .u64 1)=some (ak (i/2)):=dR Tryd.prog 3 (k := .i64) (k' := .u64) (b:=1) (by decide)
end Go.Proofs.YtdnahgfgoajmcaaDoor

namespace Go.Proofs.YtdnahgfgoajmcaaDoor
open Go Go.Abs
attribute [local congr] aq
def PR (h:ab) (v:Value) (P:List (List Nat)):Prop:=
 (∃ a c,v = .slice a P.length c)∧(∀ p∈P,gz p) ∧ ∀ j,j<P.length → ∃ b o,df 32 v (ak j)=some (ptr b o)∧b<h.next ∧ ∀ g:ab,g.get b=h.get b→cT 32 (ptr b o) g=some (.agg (aV (P.getD j [])).toArray,g)
def vr:List (List Nat)→Nat→Nat→List Nat→Option (Nat×List Nat)
 | [],_,b,D=>some (b,D)
 |p::P,i,b,D=>if b=0 then none else if i%2=1∨i=b then vr P ((lvl i i b).1/2) ((lvl i i b).2/2) (cV p D) else vr P (i/2) (b/2) (cV D p)
end Go.Proofs.YtdnahgfgoajmcaaDoor

namespace Go.Proofs.YtdnahgfgoajmcaaDoor
open Go Go.Abs
attribute [local congr] aq
theorem eql0 (b:Nat):bin Tryd.prog .eql 3 (ak b) (.int .i64 0)=some (.bool (decide (b=0))):=by
 unfold ak
 rw [bq]
 congr 2
 rw [Bool.eq_iff_iff]
 simp only [beq_iff_eq,decide_eq_true_eq]
 omega
theorem PR.mono {h h':ab} {v:Value} {P:List (List Nat)} (x:PR h v P) (o:Old h h'):PR h' v P:=by
 refine ⟨x.1,x.2.1,fun j hj => ?_⟩
 obtain ⟨b,q,h1,h2,h3⟩:=x.2.2 j hj
 have hb:h'.get b=h.get b:=Kept.get o b h2 (fun h=>h)
 exact ⟨b,q,h1,Nat.lt_of_lt_of_le h2 o.next,fun g e=>h3 g (e.trans hb)⟩
end Go.Proofs.YtdnahgfgoajmcaaDoor

namespace Go.Proofs.YtdnahgfgoajmcaaDoor
open Go Go.Abs
attribute [local congr] aq
theorem halfG_ge : ∀ (f m n:Nat),m≤halfG f m n
 | 0,m,n=>Nat.le_refl _
 |f+1,m,n=>by
  rw [halfG]
  split
  ·exact Nat.le_trans (by omega) (halfG_ge f (2*m) n)
  ·exact Nat.le_refl _
theorem halfG_lt : ∀ (f m n:Nat),m<n→halfG f m n<n
 | 0,m,n,h=>h
 |f+1,m,n,h=>by
  rw [halfG]
  split
  ·exact halfG_lt f (2*m) n (by assumption)
  ·exact h
theorem half_pos (n:Nat):1≤dj n:=halfG_ge _ _ _
theorem half_lt {n:Nat} (h:2≤n):dj n<n:=halfG_lt _ _ _ h
theorem eql1 (n:Nat):bin Tryd.prog .eql 3 (ak n) (.int .i64 1)=some (.bool (decide (n=1))):=by
 unfold ak
 rw [bq]
 congr 2
 rw [Bool.eq_iff_iff]
 simp only [beq_iff_eq,decide_eq_true_eq]
 omega
theorem sub_nn {a b:Nat} (h:b≤a) (ha:a<9223372036854775808):bin Tryd.prog .sub 3 (ak a) (ak b)=some (ak (a-b)):=by
 unfold ak
 rw [eK,show (a:Int)-(b:Int)=((a-b:Nat):Int) by omega,wrap_i64 (by omega) (by omega)]
theorem sub_n1 {a:Nat} (h:1≤a) (ha:a<9223372036854775808):bin Tryd.prog .sub 3 (ak a) (.int .i64 1)=some (ak (a-1)):=sub_nn (b:=1) h ha
def gS (v:Value):Prop := ∃ a n c,v = .slice a n c∧n≤c∧(0<n → ∀ b o s,a=some ⟨b,o,some s⟩→s=32)
theorem PR.last {h:ab} {v:Value} {P:List (List Nat)} {p:List Nat} (x:PR h v (P ++ [p])) : ∃ b o,df 32 v (ak P.length)=some (ptr b o)∧gz p ∧ ∀ g:ab,Old h g→cT 32 (ptr b o) g=some (.agg (aV p).toArray,g):=by
 obtain ⟨b,o,e1,e2,e3⟩:=x.2.2 P.length (by rw [List.length_append,List.length_singleton];omega)
 have e4:(P ++ [p]).getD P.length []=p:=by
  rw [List.getD_eq_getElem?_getD,List.getElem?_append_right (Nat.le_refl _),Nat.sub_self]
  rfl
 rw [e4] at e3
 exact ⟨b,o,e1,x.2.1 p (List.mem_append_right _ List.mem_cons_self),fun g og=>e3 g (Kept.get og b e2 (fun h=>h))⟩
theorem PR.len {h:ab} {v:Value} {P:List (List Nat)} (x:PR h v P):cN v=some (ak P.length):=by
 obtain ⟨⟨a,c,rfl⟩,_,_⟩:=x
 rfl
end Go.Proofs.YtdnahgfgoajmcaaDoor

namespace Go.Proofs.YtdnahgfgoajmcaaDoor
open Go Go.Abs
theorem halfG_s (f m n:Nat):halfG (f+1) m n=if 2*m<n then halfG f (2*m) n else m:=rfl
theorem halfG_fuel : ∀ (f m n:Nat),n≤m*2^(f+1)→halfG (f+1) m n=halfG f m n
 | 0,m,n,h=>by
   rw [halfG_s,if_neg (by omega)]
   rfl
 |f+1,m,n,h=>by
  rw [halfG_s (f+1) m n,halfG_s f m n]
  split
  ·exact halfG_fuel f (2*m) n (by
    calc n≤m*2^(f+1+1):=h
     _=2*m*2^(f+1):=by rw [Nat.pow_succ 2 (f+1),Nat.mul_comm (2^(f+1)) 2,←Nat.mul_assoc,Nat.mul_comm m 2])
  ·rfl
theorem halfG_two : ∀ (f m n:Nat),halfG f (2*m) n=2*halfG f m ((n+1)/2)
 | 0,m,n=>rfl
 |f+1,m,n=>by
  rw [halfG_s,halfG_s]
  by_cases c:2*(2*m)<n
  ·rw [if_pos c,if_pos (by omega),halfG_two f (2*m) n]
  ·rw [if_neg c,if_neg (by omega)]
theorem half_two {n:Nat} (h:3≤n) (hn:n≤1048576):dj n=2*dj ((n+1)/2):=by
 unfold dj
 rw [show halfG 30 1 n=halfG 29 (2*1) n by rw [halfG_s,if_pos (by omega)],halfG_two 29 1 n,halfG_fuel 29 1 _ (by omega)]
def stp (i:Nat) (p D:List Nat):List Nat:=if i%2=1 then nodeR p D else nodeR D p
end Go.Proofs.YtdnahgfgoajmcaaDoor

namespace Go.Proofs.YtdnahgfgoajmcaaDoor
open Go Go.Abs
attribute [local congr] aq
def fJ (P:List (List Nat)):List Value:=P.flatMap aV
theorem digsC_len : ∀ {P:List (List Nat)},(∀ p∈P,gz p)→(fJ P).length=P.length*32
 | [],_=>rfl
 |p::P,h=>by
  have ih:=digsC_len (P:=P) fun q hq=>h q (List.mem_cons_of_mem _ hq)
  have hp:=(aW (h p List.mem_cons_self)).1
  unfold fJ at ih ⊢
  rw [List.flatMap_cons,List.length_append,ih,hp,List.length_cons]
  omega
theorem digsC_get : ∀ {P:List (List Nat)},(∀ p∈P,gz p) → ∀ {j:Nat},j<P.length→((fJ P).drop (j*32)).take 32=aV (P.getD j [])
 | [],_,j,hj=>absurd hj (Nat.not_lt_zero j)
 |p::P,h,j,hj=>by
  have hp:=(aW (h p List.mem_cons_self)).1
  cases j with
  |zero=>
   unfold fJ
   rw [List.flatMap_cons,Nat.zero_mul,List.drop_zero,←hp,List.take_left]
   rfl
  |succ j=>
   have ih:=digsC_get (P:=P) (fun q hq=>h q (List.mem_cons_of_mem _ hq)) (j:=j) (by rw [List.length_cons] at hj;omega)
   unfold fJ at ih ⊢
   rw [List.flatMap_cons,show (j+1)*32=32+j*32 by omega,←List.drop_drop,List.drop_left' hp,List.getD_cons_succ,ih]
theorem digsC_ok : ∀ {P:List (List Nat)},(∀ p∈P,gz p)→Abs.bJ (fJ P)=true∧aJ (fJ P)=true
 | [],_=>⟨rfl,rfl⟩
 |p::P,h=>by
  have ih:=digsC_ok (P:=P) fun q hq=>h q (List.mem_cons_of_mem _ hq)
  have hp:=aW (h p List.mem_cons_self)
  unfold fJ at ih ⊢
  unfold Abs.bJ aJ at *
  rw [List.flatMap_cons,List.all_append,List.all_append,ih.1,ih.2,hp.2.1,hp.2.2]
  exact ⟨rfl,rfl⟩
end Go.Proofs.YtdnahgfgoajmcaaDoor

namespace Go.Proofs.YtdnahgfgoajmcaaDoor
open Go Go.Abs
variable (nd:List Nat→List Nat→List Nat)
def treeG:Nat→List (List Nat)→List Nat
 | 0,_ => []
 |f+1,L=>if L.length≤1 then L.headD [] else nd (treeG f (L.take (dj L.length))) (treeG f (L.drop (dj L.length)))
def treeN (L:List (List Nat)):List Nat:=treeG nd L.length L
theorem treeG_s (f:Nat) (L:List (List Nat)):treeG nd (f+1) L=if L.length≤1 then L.headD [] else nd (treeG nd f (L.take (dj L.length))) (treeG nd f (L.drop (dj L.length))):=rfl
theorem treeG_fuel : ∀ (f g:Nat) (L:List (List Nat)),L.length≤f→L.length≤g→treeG nd f L=treeG nd g L
 | 0,0,L,_,_=>rfl
 | 0,g+1,L,h,_=>by
   have:L = []:=List.length_eq_zero_iff.1 (by omega)
   subst this
   rfl
 |f+1,0,L,_,h=>by
  have:L = []:=List.length_eq_zero_iff.1 (by omega)
  subst this
  rfl
 |f+1,g+1,L,h1,h2=>by
  rw [treeG_s nd,treeG_s nd]
  split
  ·rfl
  ·rename_i c
   have a1:=half_pos L.length
   have a2:=half_lt (n:=L.length) (by omega)
   rw [treeG_fuel f g (L.take (dj L.length)) (by rw [List.length_take];omega) (by rw [List.length_take];omega),treeG_fuel f g (L.drop (dj L.length)) (by rw [List.length_drop];omega) (by rw [List.length_drop];omega)]
theorem treeN_two {L:List (List Nat)} (h:2≤L.length):treeN nd L=nd (treeN nd (L.take (dj L.length))) (treeN nd (L.drop (dj L.length))):=by
 have a1:=half_pos L.length
 have a2:=half_lt h
 unfold treeN
 obtain ⟨f,hf⟩ : ∃ f,L.length=f+1:=⟨L.length-1,by omega⟩
 rw [show treeG nd L.length L=treeG nd (f+1) L by rw [hf],treeG_s nd,if_neg (by omega),treeG_fuel nd f (L.take (dj L.length)).length _ (by rw [List.length_take];omega) (Nat.le_refl _),treeG_fuel nd f (L.drop (dj L.length)).length _ (by rw [List.length_drop];omega) (Nat.le_refl _)]
theorem treeN_one (d:List Nat):treeN nd [d]=d:=rfl
def pairs:List (List Nat)→List (List Nat)
 |a::b::L=>nd a b::pairs L
 |L=>L
theorem pairs_c (a b:List Nat) (L:List (List Nat)):pairs nd (a::b::L)=nd a b::pairs nd L:=rfl
theorem pairs_len : ∀ (L:List (List Nat)),(pairs nd L).length=(L.length+1)/2
 | []=>rfl
 | [a]=>by rw [show pairs nd [a] = [a] from rfl,List.length_singleton]
 |a::b::L=>by
  rw [pairs_c nd,List.length_cons,pairs_len L,List.length_cons,List.length_cons]
  omega
theorem pairs_take : ∀ (k:Nat) (L:List (List Nat)),(pairs nd L).take k=pairs nd (L.take (2*k))
 | 0,L=>by rw [Nat.mul_zero,List.take_zero,List.take_zero];rfl
 |k+1,[]=>rfl
 |k+1,[a]=>by
  rw [show 2*(k+1)=(2*k+1)+1 by omega,List.take_succ_cons,List.take_nil,show pairs nd [a] = [a] from rfl,List.take_succ_cons,List.take_nil]
 |k+1,a::b::L=>by
  rw [pairs_c nd,List.take_succ_cons,pairs_take k L,show 2*(k+1)=(2*k+1)+1 by omega,List.take_succ_cons,List.take_succ_cons,pairs_c nd]
theorem pairs_drop : ∀ (k:Nat) (L:List (List Nat)),(pairs nd L).drop k=pairs nd (L.drop (2*k))
 | 0,L=>by rw [Nat.mul_zero,List.drop_zero,List.drop_zero]
 |k+1,[]=>by rw [List.drop_nil];rfl
 |k+1,[a]=>by
  rw [show 2*(k+1)=(2*k+1)+1 by omega,List.drop_succ_cons,List.drop_nil]
  rw [show pairs nd [a] = [a] from rfl,List.drop_succ_cons,List.drop_nil]
  rfl
 |k+1,a::b::L=>by
  rw [pairs_c nd,List.drop_succ_cons,pairs_drop k L,show 2*(k+1)=(2*k+1)+1 by omega,List.drop_succ_cons,List.drop_succ_cons]
theorem treeN_pairs : ∀ (n:Nat) (L:List (List Nat)),L.length=n→n≤1048576→treeN nd (pairs nd L)=treeN nd L:=by
 intro n
 induction n using Nat.strongRecOn with
 |_ n ih=>
  intro L hL hn
  match L,hL with
  | [],_=>rfl
  | [a],_=>rfl
  | [a,b],_=>rfl
  |a::b::c::L,hL=>
   have h3:3≤n:=by rw [List.length_cons,List.length_cons,List.length_cons] at hL;omega
   generalize a::b::c::L=M at *
   have ht:=half_two h3 hn
   have hp:=half_pos ((n+1)/2)
   have hl:=half_lt (n:=n) (by omega)
   have pl:=pairs_len nd M
   rw [hL] at pl
   rw [treeN_two nd (L:=pairs nd M) (by omega),treeN_two nd (L:=M) (by omega),pl,pairs_take nd,pairs_drop nd,hL,ht]
   rw [ih (M.take (2*dj ((n+1)/2))).length (by rw [List.length_take];omega) _ rfl (by rw [List.length_take];omega),ih (M.drop (2*dj ((n+1)/2))).length (by rw [List.length_drop];omega) _ rfl (by rw [List.length_drop];omega)]
def push:Nat→List Nat→List (List Nat)→Nat→List (List Nat)
 | 0,d,T,_=>d::T
 |f+1,d,T,i=>if i%2=1 then (match T with|x::T=>push f (nd x d) T (i/2) | [] => [d]) else d::T
theorem push_s (f:Nat) (d:List Nat) (T:List (List Nat)) (i:Nat):push nd (f+1) d T i=if i%2=1 then (match T with|x::T=>push nd f (nd x d) T (i/2) | [] => [d]) else d::T:=rfl
theorem push_z (d:List Nat) (T:List (List Nat)) (i:Nat):push nd 0 d T i=d::T:=rfl
theorem push_fuel : ∀ (f g:Nat) (d:List Nat) (T:List (List Nat)) (i:Nat),i≤f→i≤g→push nd f d T i=push nd g d T i
 | 0,0,d,T,i,_,_=>rfl
 | 0,g+1,d,T,i,h,_=>by rw [push_z nd,push_s nd,if_neg (by omega)]
 |f+1,0,d,T,i,_,h=>by rw [push_z nd,push_s nd,if_neg (by omega)]
 |f+1,g+1,d,T,i,h1,h2=>by
  rw [push_s nd,push_s nd]
  split
  ·cases T with
   |nil=>rfl
   |cons x T=>exact push_fuel f g (nd x d) T (i/2) (by omega) (by omega)
  ·rfl
def stk:List (List Nat)→List (List Nat)→Nat→List (List Nat)
 | [],T,_=>T
 |d::L,T,i=>stk L (push nd i d T i) (i+1)
theorem stk_s (d:List Nat) (L T:List (List Nat)) (i:Nat):stk nd (d::L) T i=stk nd L (push nd i d T i) (i+1):=rfl
theorem stk_z (T:List (List Nat)) (i:Nat):stk nd [] T i=T:=rfl
theorem stk_app : ∀ (L M T:List (List Nat)) (i:Nat),stk nd (L++M) T i=stk nd M (stk nd L T i) (i+L.length)
 | [],M,T,i=>rfl
 |d::L,M,T,i=>by
  rw [List.cons_append,stk_s nd,stk_s nd,stk_app L M,List.length_cons,Nat.add_assoc,Nat.add_comm 1]
def finS:List (List Nat)→List Nat
 | [] => []
 |d::T=>T.foldl (fun d x=>nd x d) d
theorem fin_push : ∀ (f:Nat) (d:List Nat) (T:List (List Nat)) (i:Nat),finS nd (push nd f d T i)=finS nd (d::T)
 | 0,d,T,i=>rfl
 |f+1,d,T,i=>by
  rw [push_s nd]
  split
  ·cases T with
   |nil=>rfl
   |cons x T=>
    show finS nd (push nd f (nd x d) T (i/2))=_
    rw [fin_push f]
    rfl
  ·rfl
theorem pairs_app : ∀ (k:Nat) (L M:List (List Nat)),L.length=2*k→pairs nd (L++M)=pairs nd L++pairs nd M
 | 0,L,M,h=>by
   have:L = []:=List.length_eq_zero_iff.1 (by omega)
   subst this
   rfl
 |k+1,L,M,h=>by
  match L,h with
  | [],h=>rw [List.length_nil] at h;omega
  | [a],h=>rw [List.length_cons,List.length_nil] at h;omega
  |a::b::L,h=>
   rw [List.cons_append,List.cons_append,pairs_c nd,pairs_c nd,pairs_app k L M (by rw [List.length_cons,List.length_cons] at h;omega),List.cons_append]
theorem stk_even : ∀ (k:Nat) (L:List (List Nat)),L.length=2*k→stk nd L [] 0=stk nd (pairs nd L) [] 0
 | 0,L,h=>by
   have:L = []:=List.length_eq_zero_iff.1 (by omega)
   subst this
   rfl
 |k+1,L,h=>by
  have e1:L=L.take (2*k)++L.drop (2*k):=(List.take_append_drop _ _).symm
  have l1:(L.take (2*k)).length=2*k:=by rw [List.length_take];omega
  have l2:(L.drop (2*k)).length=2:=by rw [List.length_drop];omega
  generalize L.take (2*k)=A at *
  generalize L.drop (2*k)=B at *
  subst e1
  match B,l2 with
  | [a,b],_=>
    have ih:=stk_even k A l1
    have pl:=pairs_len nd A
    rw [l1] at pl
    have e2:push nd (2*k) a (stk nd A [] 0) (2*k)=a::stk nd A [] 0:=by
     cases k with
     |zero=>rfl
     |succ k=>rw [show 2*(k+1)=(2*k+1)+1 by omega,push_s nd,if_neg (by omega)]
    rw [stk_app nd,l1,pairs_app nd k A _ l1,stk_app nd,pl,←ih,Nat.zero_add,stk_s nd,stk_s nd,stk_z nd,e2,push_s nd,if_pos (by omega)]
    show push nd (2*k) (nd a b) (stk nd A [] 0) ((2*k+1)/2)=stk nd [nd a b] _ _
    rw [stk_s nd,stk_z nd,Nat.zero_add,show (2*k+1)/2=k by omega]
    exact push_fuel nd _ _ _ _ _ (by omega) (by omega)
theorem fin_stk : ∀ (n:Nat) (L:List (List Nat)),L.length=n→1≤n→n≤1048576→finS nd (stk nd L [] 0)=treeN nd L:=by
 intro n
 induction n using Nat.strongRecOn with
 |_ n ih=>
  intro L hL h1 hn
  by_cases c1:n=1
  ·subst c1
   match L,hL with
   | [d],_=>rfl
  ·have pl:=pairs_len nd L
   rw [hL] at pl
   have e:=ih ((n+1)/2) (by omega) (pairs nd L) pl (by omega) (by omega)
   rw [treeN_pairs nd n L hL hn] at e
   rw [←e]
   by_cases c2:n%2=0
   ·rw [stk_even nd (n/2) L (by omega)]
   ·have e1:L=L.take (2*(n/2))++L.drop (2*(n/2)):=(List.take_append_drop _ _).symm
    have l1:(L.take (2*(n/2))).length=2*(n/2):=by rw [List.length_take];omega
    have l2:(L.drop (2*(n/2))).length=1:=by rw [List.length_drop];omega
    generalize L.take (2*(n/2))=A at *
    generalize L.drop (2*(n/2))=B at *
    subst e1
    match B,l2 with
    | [a],_=>
      rw [pairs_app nd (n/2) A _ l1,stk_app nd,stk_app nd,stk_even nd (n/2) A l1]
      show finS nd (stk nd [a] _ _)=finS nd (stk nd [a] _ _)
      rw [stk_s nd,stk_z nd,stk_s nd,stk_z nd,fin_push nd,fin_push nd]
theorem stk_snoc (L:List (List Nat)) (d:List Nat):stk nd (L ++ [d]) [] 0=push nd L.length d (stk nd L [] 0) L.length:=by
 rw [stk_app nd,stk_s nd,stk_z nd,Nat.zero_add]
def pcG:Nat→Nat→Nat
 | 0,_=>0
 |f+1,i=>i%2+pcG f (i/2)
def pc (i:Nat):Nat:=pcG i i
theorem pcG_fuel : ∀ (f g i:Nat),i≤f→i≤g→pcG f i=pcG g i
 | 0,0,i,_,_=>rfl
 | 0,g+1,i,h,_=>by
   have:i=0:=by omega
   subst this
   rw [pcG,show pcG (g+1) 0=0+pcG g 0 from rfl,←pcG_fuel 0 g 0 (Nat.le_refl _) (Nat.zero_le _)]
   rfl
 |f+1,0,i,_,h=>by
  have:i=0:=by omega
  subst this
  rw [show pcG (f+1) 0=0+pcG f 0 from rfl,pcG_fuel f 0 0 (Nat.zero_le _) (Nat.le_refl _)]
  rfl
 |f+1,g+1,i,h1,h2=>by rw [show pcG (f+1) i=i%2+pcG f (i/2) from rfl,show pcG (g+1) i=i%2+pcG g (i/2) from rfl,pcG_fuel f g (i/2) (by omega) (by omega)]
theorem pc_step (i:Nat):pc i=i%2+pc (i/2):=by
 cases i with
 |zero=>rfl
 |succ i=>
  unfold pc
  rw [show pcG (i+1) (i+1)=(i+1)%2+pcG i ((i+1)/2) from rfl,pcG_fuel i ((i+1)/2) _ (by omega) (Nat.le_refl _)]
theorem push_len : ∀ (f:Nat) (d:List Nat) (T:List (List Nat)) (i:Nat),i≤f→T.length=pc i→(push nd f d T i).length=pc (i+1)
 | 0,d,T,i,h,hT=>by
   have:i=0:=by omega
   subst this
   rw [push_z nd,List.length_cons,hT]
   rfl
 |f+1,d,T,i,h,hT=>by
  rw [push_s nd]
  rw [pc_step] at hT
  by_cases c:i%2=1
  ·rw [if_pos c]
   cases T with
   |nil=>rw [List.length_nil] at hT;omega
   |cons x T=>
    rw [List.length_cons] at hT
    have:=push_len f (nd x d) T (i/2) (by omega) (by omega)
    show (push nd f (nd x d) T (i/2)).length=_
    rw [this,pc_step (i+1),show (i+1)/2=i/2+1 by omega,show (i+1)%2=0 by omega,Nat.zero_add]
  ·rw [if_neg c,List.length_cons,hT,pc_step (i+1),show (i+1)/2=i/2 by omega,show (i+1)%2=1 by omega]
   omega
theorem stk_len : ∀ (L T:List (List Nat)) (i:Nat),T.length=pc i→(stk nd L T i).length=pc (i+L.length)
 | [],T,i,h=>h
 |d::L,T,i,h=>by
  rw [stk_s nd,stk_len L _ _ (push_len nd i d T i (Nat.le_refl _) h),List.length_cons,Nat.add_assoc,Nat.add_comm 1]
theorem push_ok (hnd : ∀ a b,gz (nd a b)) : ∀ (f:Nat) {d:List Nat} {T:List (List Nat)} (i:Nat),gz d→(∀ t∈T,gz t) → ∀ t∈push nd f d T i,gz t
 | 0,d,T,i,hd,hT=>fun t ht=>by
   rw [push_z nd] at ht
   rcases List.mem_cons.1 ht with rfl|ht
   ·exact hd
   ·exact hT t ht
 |f+1,d,T,i,hd,hT=>by
  rw [push_s nd]
  split
  ·cases T with
   |nil=>exact fun t ht=>by rw [List.mem_singleton.1 ht];exact hd
   |cons x T=>exact push_ok hnd f (i/2) (hnd _ _) fun t ht=>hT t (List.mem_cons_of_mem _ ht)
  ·intro t ht
   rcases List.mem_cons.1 ht with rfl|ht
   ·exact hd
   ·exact hT t ht
end Go.Proofs.YtdnahgfgoajmcaaDoor

namespace Go.Proofs.YtdnahgfgoajmcaaDoor
open Go Go.Abs
structure Stk (h:ab) (N:Nat) (v:Value) (T:List (List Nat)):Prop where
 dig : ∀ t∈T,gz t
 form:(T = []∧(v = .slice none 0 0 ∨ ∃ b,v = .slice (some ⟨b,0,none⟩) 0 0)) ∨ ∃ b m X,v = .slice (some ⟨b,0,some 32⟩) T.length m∧N≤b∧T.length≤m∧h.get b=some (fJ T++X)∧X.length=(m-T.length)*32∧Abs.bJ X=true∧aJ X=true
def stB:Value→Option Nat
 | .slice (some ⟨b,_,some _⟩) _ _=>some b
 |_=>none
theorem Stk.nil (h:ab) (N:Nat):Stk h N (.slice none 0 0) []:=⟨fun _ h=>(by cases h),.inl ⟨rfl,.inl rfl⟩⟩
theorem Stk.lt {h:ab} {N:Nat} {v:Value} {T:List (List Nat)} (x:Stk h N v T) {b:Nat} (e:stB v=some b):N≤b∧b<h.next:=by
 rcases x.form with ⟨_,rfl|⟨b',rfl⟩⟩|⟨b',m,X,rfl,h1,h2,h3,_⟩
 ·cases e
 ·cases e
 ·cases e
  exact ⟨h1,h.aP h3⟩
theorem Stk.keep {h h':ab} {N:Nat} {v:Value} {T:List (List Nat)} (x:Stk h N v T) {B:Nat→Prop} (k:Kept h h' B) (hB : ∀ b,stB v=some b → ¬B b):Stk h' N v T:=by
 refine ⟨x.dig,?_⟩
 rcases x.form with f|⟨b',m,X,rfl,h1,h2,h3,h4⟩
 ·exact .inl f
 ·exact .inr ⟨b',m,X,rfl,h1,h2,k.dX h3 (hB b' rfl),h4⟩
theorem Stk.bS {h h':ab} {N:Nat} {v:Value} {T:List (List Nat)} (x:Stk h N v T) (k:Old h h'):Stk h' N v T:=x.keep k fun _ _ h=>h
theorem Stk.len {h:ab} {N:Nat} {v:Value} {T:List (List Nat)} (x:Stk h N v T):cN v=some (ak T.length):=by
 rcases x.form with ⟨rfl,rfl|⟨b',rfl⟩⟩|⟨b',m,X,rfl,_⟩<;>rfl
theorem Stk.pr {h:ab} {N:Nat} {v:Value} {T:List (List Nat)} (x:Stk h N v T):PR h v T∧gS v:=by
 rcases x.form with ⟨rfl,rfl|⟨b',rfl⟩⟩|⟨b',m,X,rfl,h1,h2,h3,h4,h5,h6⟩
 ·exact ⟨⟨⟨_,_,rfl⟩,x.dig,fun j hj=>absurd hj (Nat.not_lt_zero j)⟩,⟨_,_,_,rfl,Nat.le_refl _,fun h=>absurd h (Nat.lt_irrefl 0)⟩⟩
 ·exact ⟨⟨⟨_,_,rfl⟩,x.dig,fun j hj=>absurd hj (Nat.not_lt_zero j)⟩,⟨_,_,_,rfl,Nat.le_refl _,fun h=>absurd h (Nat.lt_irrefl 0)⟩⟩
 ·refine ⟨⟨⟨_,_,rfl⟩,x.dig,fun j hj => ?_⟩,⟨_,_,_,rfl,h2,fun _ b o s e=>by cases e;rfl⟩⟩
  have hl:=digsC_len x.dig
  have hm:=mul_le (z:=32) hj
  have e:((fJ T++X).drop (j*32)).take 32=aV (T.getD j []):=by
   rw [List.drop_append_of_le_length (by omega),List.take_append_of_le_length (by rw [List.length_drop];omega),digsC_get x.dig hj]
  refine ⟨b',0+j*32,?_,h.aP h3,fun g hg => ?_⟩
  ·unfold df ak
   simp only
   rw [if_pos (by omega),Int.toNat_natCast]
  ·have dp:gz (T.getD j []):=x.dig _ (by
    rw [List.getD_eq_getElem?_getD,List.getElem?_eq_getElem hj]
    exact List.getElem_mem hj)
   have:=ldN_at (o:=0+j*32) (n:=32) (hg.trans h3) (by rw [List.length_append];omega) (by rw [Nat.zero_add,e];exact (aW dp).2.1)
   rw [Nat.zero_add,e] at this
   rw [Nat.zero_add]
   exact this
theorem digsC_app (A B:List (List Nat)):fJ (A++B)=fJ A++fJ B:=by
 unfold fJ
 rw [List.flatMap_append]
theorem digsC_one (d:List Nat):fJ [d]=aV d:=by
 unfold fJ
 rw [List.flatMap_cons,List.flatMap_nil,List.append_nil]
theorem Stk.pop {h:ab} {N:Nat} {v:Value} {T:List (List Nat)} {d:List Nat} (x:Stk h N v (T ++ [d])) : ∃ v',slR 32 v none (some (ak T.length)) none=some v'∧Stk h N v' T∧stB v'=stB v:=by
 have lT:(T ++ [d]).length=T.length+1:=by rw [List.length_append,List.length_singleton]
 have hd:=x.dig
 have dd:=(aW (hd d (List.mem_append_right _ List.mem_cons_self)))
 rcases x.form with ⟨h0,_⟩|⟨b,m,X,rfl,h1,h2,h3,h4,h5,h6⟩
 ·rw [h0] at lT
  cases lT
 ·rw [lT] at h2 h4 ⊢
  have hb:cm (T.length+1) m none (some (ak T.length)) none=some (0,T.length,m):=by
   have a1:bE m m none=some m:=rfl
   have a2:bE (T.length+1) m (some (ak T.length))=some T.length:=by
    unfold bE ak
    simp only
    rw [if_pos (by omega)]
    rfl
   unfold cm
   rw [a1]
   simp only [a2]
   rfl
  refine ⟨.slice (some ⟨b,0,some 32⟩) T.length m,?_,⟨fun t ht=>hd t (List.mem_append_left _ ht),.inr ⟨b,m,aV d++X,rfl,h1,by omega,?_,?_,?_,?_⟩⟩,rfl⟩
  ·unfold slR dP
   simp only [hb]
   rw [if_pos ⟨True.intro,by decide⟩,Nat.zero_mul,Nat.add_zero,Nat.sub_zero,Nat.sub_zero]
  ·rw [h3,digsC_app,digsC_one,List.append_assoc]
  ·rw [List.length_append,dd.1,h4]
   omega
  ·unfold Abs.bJ at *
   rw [List.all_append,dd.2.1,h5];rfl
  ·unfold aJ at *
   rw [List.all_append,dd.2.2,h6];rfl
theorem first_one {h:ab} {c:Nat} {d:List Nat} (hd:gz d) (hc:h.get c=some (aV d)):bc 32 1 (.slice (some ⟨c,0,none⟩) 1 1) h=some (aV d):=by
 have dd:=aW hd
 have e:((aV d).drop 0).take (1*32)=aV d:=by rw [List.drop_zero,List.take_of_length_le (by rw [dd.1];decide)]
 unfold bc
 simp only
 rw [if_neg (by decide),hc]
 simp only
 rw [e,if_pos ⟨by rw [dd.1];decide,dd.2.1⟩]
theorem Stk.push {h:ab} {N:Nat} {v:Value} {T:List (List Nat)} {d:List Nat} {c:Nat} (x:Stk h N v T) (h0:h.n0≤N) (hN:N≤h.next) (hd:gz d) (hl:T.length≤1000000) (hc:h.get c=some (aV d)) :
  ∃ v' h',aD 32 32 v (.slice (some ⟨c,0,none⟩) 1 1) h=some (v',h')∧Stk h' N v' (T ++ [d])∧Kept h h' (fun b=>stB v=some b)∧(stB v'=stB v∨stB v'=some h.next):=by
 have dd:=aW hd
 have hf:=first_one hd hc
 have dT : ∀ t∈T ++ [d],gz t:=fun t ht=>by
  rcases List.mem_append.1 ht with h|h
  ·exact x.dig t h
  ·rw [List.mem_singleton.1 h];exact hd
 have lT:(T ++ [d]).length=T.length+1:=by rw [List.length_append,List.length_singleton]
 have lc:=digsC_len x.dig
 have hcond : ∀ n:Nat,n≤1000000→(!(aJ (aV d)) || !(decide ((n+1)*32≤140737488355328)) || !(decide (n+1≤4611686018427387904))||decide ((aV d).length≠1*32))=false:=by
  intro n hn
  rw [dd.2.2,decide_eq_true (by omega:(n+1)*32≤140737488355328),decide_eq_true (by omega:n+1≤4611686018427387904),decide_eq_false (by rw [dd.1];decide)]
  rfl
 have new : ∀ g:ab,N≤g.next→T = []→Stk (g.alloc (aV d)) N (.slice (some ⟨g.next,0,some 32⟩) 1 1) (T ++ [d]):=fun g hg e=>by
  subst e
  refine ⟨dT,.inr ⟨g.next,1,[],rfl,hg,Nat.le_refl _,?_,rfl,rfl,rfl⟩⟩
  rw [ab.aK,if_pos rfl,List.append_nil,List.nil_append,digsC_one]
 rcases x.form with ⟨rfl,rfl|⟨b,rfl⟩⟩|⟨b,m,X,rfl,h1,h2,h3,h4,h5,h6⟩
 ·refine ⟨.slice (some ⟨h.next,0,some 32⟩) 1 1,h.alloc (aV d),?_,new h hN rfl,Kept.alloc _ _ _,.inr rfl⟩
  unfold aD
  simp only [lenA,hf]
  rw [if_neg (by rw [hcond 0 (by decide)];decide),if_neg (by decide),if_pos trivial]
 ·refine ⟨.slice (some ⟨h.next,0,some 32⟩) 1 1,h.alloc (aV d),?_,new h hN rfl,Kept.alloc _ _ _,.inr rfl⟩
  have f0:bc 32 0 (.slice (some ⟨b,0,none⟩) 0 0) h=some []:=rfl
  unfold aD
  simp only [lenA,hf,f0]
  rw [if_neg (by rw [hcond 0 (by decide)];decide),if_neg (by decide),if_neg (by decide)]
  rfl
 ·have hbn:=h.aP h3
  by_cases hm:T.length+1≤m
  ·have st:stL b (0+T.length*32) (aV d) h=some (h.set b (fJ T++(aV d++X.drop 32))):=by
    unfold stL
    rw [h3]
    simp only
    rw [if_pos (by
     rw [dd.2.2,decide_eq_true (show h.n0≤b by omega),decide_eq_true (by rw [List.length_append,dd.1,lc,h4];omega)]
     rfl)]
    congr 2
    have eX:X=X.take 32++X.drop 32:=(List.take_append_drop _ _).symm
    conv=>lhs;rw [eX]
    exact splice_app (n:=32) (by rw [lc,Nat.zero_add]) (by rw [List.length_take,h4];omega) dd.1
   refine ⟨.slice (some ⟨b,0,some 32⟩) (T.length+1) m,h.set b (fJ T++(aV d++X.drop 32)),?_,⟨dT,.inr ⟨b,m,X.drop 32,by rw [lT],h1,by rw [lT];exact hm,?_,?_,?_,?_⟩⟩,Kept.set (by omega) h3 (.inr rfl),.inl rfl⟩
   ·unfold aD
    simp only [lenA,hf]
    rw [if_neg (by rw [hcond T.length hl];decide),if_pos hm,if_neg (by decide),st]
    rfl
   ·rw [ab.eD (by omega) h3,digsC_app,digsC_one,List.append_assoc]
   ·rw [List.length_drop,h4,lT]
    omega
   ·unfold Abs.bJ at *
    rw [List.all_eq_true] at *
    exact fun y hy=>h5 y (List.mem_of_mem_drop hy)
   ·unfold aJ at *
    rw [List.all_eq_true] at *
    exact fun y hy=>h6 y (List.mem_of_mem_drop hy)
  ·have hmE:m=T.length:=by omega
   subst hmE
   have hX:X = []:=List.length_eq_zero_iff.1 (by omega)
   subst hX
   rw [List.append_nil] at h3
   have hf2:bc 32 T.length (.slice (some ⟨b,0,some 32⟩) T.length T.length) h=some (fJ T):=by
    unfold bc
    simp only
    by_cases hz:T.length*32=0
    ·rw [if_pos hz]
     have:T = []:=List.length_eq_zero_iff.1 (by omega)
     rw [this]
     rfl
    ·rw [if_neg hz,h3]
     simp only
     have e:((fJ T).drop 0).take (T.length*32)=fJ T:=by rw [List.drop_zero,List.take_of_length_le (by omega)]
     rw [e,if_pos ⟨by omega,(digsC_ok x.dig).1⟩]
   have hk : ∀ y,y<h.next→y≠b→((h.kill b).alloc (fJ T++aV d)).aF y=h.aF y:=by
    intro y hy hne
    rw [ab.cA,if_neg (by rw [ab.gA];omega)]
    exact getB_kill (by omega) hbn hne
   refine ⟨.slice (some ⟨h.next,0,some 32⟩) (T.length+1) (T.length+1),(h.kill b).alloc (fJ T++aV d),?_,⟨dT,.inr ⟨h.next,T.length+1,[],by rw [lT],hN,by rw [lT];exact Nat.le_refl _,?_,by rw [lT,Nat.sub_self];rfl,rfl,rfl⟩⟩,⟨rfl,by simp,fun y hy hB=>hk y hy (fun e=>hB (by rw [e];rfl))⟩,.inr rfl⟩
   ·unfold aD
    simp only [lenA,hf]
    rw [if_neg (by rw [hcond T.length hl];decide),if_neg (by omega)]
    simp only [hf2]
    rw [if_neg (by rw [lc];simp),if_pos (by simp [h3];omega)]
   ·rw [ab.aK,if_pos (by rw [ab.gA]),List.append_nil,digsC_app,digsC_one]
end Go.Proofs.YtdnahgfgoajmcaaDoor

namespace Go.Proofs.YtdnahgfgoajmcaaDoor
open Go Go.Abs
attribute [local congr] aq
theorem is106:cd Tryd.prog 106 Tryd.f106:=⟨by kernel_rfl,by kernel_rfl,by kernel_rfl,by kernel_rfl⟩
theorem is107:cd Tryd.prog 107 Tryd.f107:=⟨by kernel_rfl,by kernel_rfl,by kernel_rfl,by kernel_rfl⟩
theorem is135:cd Tryd.prog 135 Tryd.f135:=⟨by kernel_rfl,by kernel_rfl,by kernel_rfl,by kernel_rfl⟩
theorem is54:cd Tryd.prog 54 Tryd.f54:=⟨by kernel_rfl,by kernel_rfl,by kernel_rfl,by kernel_rfl⟩
theorem results106:Tryd.f106.results.toList = [.cell 2 35]:=by kernel_rfl
theorem results54:Tryd.f54.results.toList = [.cell 2 35]:=by kernel_rfl
theorem results135:Tryd.f135.results.toList = []:=by kernel_rfl
def nilD:List Nat:=(HD0.wr []).sum
theorem nilD_ok:gz nilD:=sum_d32 _
set_option maxRecDepth 100000 in
theorem r106 {h:ab} (hG:4≤h.n0) (hz:h.get 3=some bZ) : ∃ h',CW 106 [.slice none 0 0] h=some (.agg (aV nilD).toArray,h')∧Old h h':=by
 obtain ⟨h1,z1,o1,g1,n1⟩:=fresh (List.replicate 32 (.int .u8 0)) h
 obtain ⟨h2,e2,o2,g2,n2⟩:=r121 (h:=h1) (by rw [o1.n0];exact hG)
 have O2:=o1.trans o2
 obtain ⟨h3,e3,k3,g3,w3,m3⟩:=r122 (h:=h2) (by rw [O2.n0];exact hG) (Old.get O2 hz) (p:=h1.next) HD0_ok g2 (by rw [O2.n0];have:=h.ax;have:=o1.next;omega) (a:=none) (n:=0) (c:=0) (l := []) rfl (fun h=>absurd h (by decide)) (fun y hy=>by cases hy) (by decide)
 have O3:Old h h3:=Old.bA O2 k3 (by have:=o1.next;omega)
 obtain ⟨h4,e4,o4⟩:=r123 (h:=h3) (by rw [O3.n0];exact hG) (Old.get O3 hz) (p:=h1.next) w3 g3 (by rw [m3];decide)
 have O4:=O3.trans o4
 have e4:CW 123 [ptr h1.next 0] h3=some (.agg (aV nilD).toArray,h4):=e4
 have dc:=aW nilD_ok
 have q2:h4.get h.next=some (List.replicate 32 (.int .u8 0)):=Old.get o4 (Kept.dX k3 (o2.get g1) (by omega))
 obtain ⟨h5,e5,k5,g5,_,_⟩:=aS (n:=32) (k':=aV nilD) q2 (by rw [O4.n0];exact h.ax) rfl dc.1 dc.2.2
 have L5:=bh g5 dc.1 dc.2.1
 refine ⟨h5,aC is106 hG rfl ((t106_eq _ _ _).trans ?_),Old.bA O4 k5 (Nat.le_refl _)⟩
 unfold t106
 simp -implicitDefEqProofs only [z1,e2,e3,e4,e5,ad,af]
 exact cW results106 agg35 fK (show 2<10 by decide) _ L5
theorem r107 {h:ab} (hG:4≤h.n0) {a:Option Addr} {n c:Nat} : ∃ h',CW 107 [.slice a n c] h=some (.func (.func 135) #[] #[ptr h.next 0],h')∧Old h h'∧h'.get h.next=some [.slice a n c]∧h'.next=h.next+1:=by
 have b:box (.slice a n c) h=some (ptr h.next 0,h.alloc [.slice a n c]):=rfl
 refine ⟨h.alloc [.slice a n c],aC is107 hG rfl ((t107_eq _ _ _).trans ?_),Kept.alloc _ _ _,by rw [ab.aK,if_pos rfl],ab.cn ..⟩
 unfold t107
 simp -implicitDefEqProofs only [b,ad,af]
theorem geq3 (j:Nat):bin Tryd.prog .geq 3 (.int .i64 ((j:Int)-1)) (.int .i64 0)=some (.bool (decide (1≤j))):=by
 rw [bC]
 congr 2
 rw [decide_eq_decide]
 omega
set_option maxRecDepth 100000 in
theorem r135 {h:ab} (hG:4≤h.n0) {L c:Nat} {w:Value} {T:List (List Nat)} (hT:T.length≤1000000) (Inv:Nat→ab→Prop)
  (hread : ∀ j g,Inv j g→ld1 (ptr c 0) g=some (w,g)∧PR g w T)
  (hstep : ∀ j g,j<T.length→Inv (j+1) g → ∃ g',CW (yid Tryd.prog L) [ak j,.agg (aV (T.getD j [])).toArray] g=some (.bool true,g')∧Inv j g') (h0:Inv T.length h) :
  ∃ h',CW 135 [.func (.yield L) #[] #[],ptr c 0] h=some (.tuple #[],h')∧Inv 0 h':=by
 have key : ∃ o:Out,t135 CW (.func (.yield L) #[] #[]) (ptr c 0) h=o ∧ ∃ h',o=some (.tuple #[],h')∧Inv 0 h':=by
  refine ⟨_,rfl,?_⟩
  unfold t135
  obtain ⟨l0,P0⟩:=hread _ _ h0
  have hll:=PR.len P0
  have sb:bin Tryd.prog .sub 3 (ak T.length) (.int .i64 1)=some (.int .i64 ((T.length:Int)-1)):=by
   unfold ak
   rw [eK,wrap_i64 (by omega) (by omega)]
  simp -implicitDefEqProofs only [l0,hll,sb,ad,af]
  refine bO (n:=19) (fin:=fun ex y g=>ex = .exit 0∧Inv 0 g) (Q:=fun o:Out => ∃ h',o=some (.tuple #[],h')∧Inv 0 h')
   (bP (t135l135_10_eq CW) (Inv:=fun k y g=>k≤T.length∧y 0 = .func (.yield L) #[] #[]∧y 1=ptr c 0∧y 3 = .int .i64 ((k:Int)-1)∧Inv k g) ?_ T.length (by have:rounds=18446744073709551616:=rfl;omega) ⟨Nat.le_refl _,rfl,rfl,rfl,h0⟩) ?_
  ·rintro k y g ⟨hk,y0,y1,y3,hi⟩
   unfold t135l135_10
   have q:=geq3 k
   simp -implicitDefEqProofs only [y0,y1,y3,q,ad,af]
   obtain ⟨l1,P1⟩:=hread _ _ hi
   by_cases hk1:1≤k
   ·obtain ⟨j,rfl⟩ : ∃ j,k=j+1:=⟨k-1,by omega⟩
    obtain ⟨b,o,ix,hb,lp⟩:=P1.2.2 j (by omega)
    have lg:=lp g rfl
    obtain ⟨g',e',hi'⟩:=hstep j g (by omega) hi
    have ej:(((j+1:Nat):Int)-1)=(j:Int):=by omega
    have ix':df 32 w (.int .i64 (j:Int))=some (ptr b o):=ix
    have e'':callA Tryd.prog CW (.func (.yield L) #[] #[]) [.int .i64 (j:Int),.agg (aV (T.getD j [])).toArray] g=some (.bool true,g'):=e'
    have sb2:bin Tryd.prog .sub 3 (.int .i64 (j:Int)) (.int .i64 1)=some (.int .i64 ((j:Int)-1)):=by
     rw [eK,wrap_i64 (by omega) (by omega)]
    simp -implicitDefEqProofs only [decide_eq_true hk1,ej,l1,ix',lg,e'',sb2,aX,Bool.not_true,ad,af]
    exact dU.next j (by omega) ⟨by omega,y0,y1,rfl,hi'⟩
   ·have hk0:k=0:=by omega
    subst hk0
    simp -implicitDefEqProofs only [decide_eq_false hk1,ad,af]
    exact dU.out 0 ⟨rfl,hi⟩
  ·rintro ex z g ⟨rfl,hi⟩
   simp -implicitDefEqProofs only [bB,b135_1,if_true]
   rw [results135]
   exact ⟨g,rfl,hi⟩
 obtain ⟨o9,e,h',e',q⟩:=key
 exact ⟨h',aC is135 hG rfl ((t135_eq _ _ _ _).trans (e.trans e')),q⟩
end Go.Proofs.YtdnahgfgoajmcaaDoor

