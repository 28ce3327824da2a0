/-
  A part of the proof, spaces and names shortened by a program (a claim may hold 1,500,000 bytes).
  Conditions: as each theorem states.
-/
import Derived.Test.YtjghlcdidopcpaaGreatDoorG11
namespace Go.Proofs.YtjghlcdidopcpaaGreatDoor
open Go Go.Abs
attribute [local congr] aP
def i8 (x:Int):Nat:=(x%256).toNat
def i16 (x:Int):Nat:=(x%65536).toNat
def i32 (x:Int):Nat:=(x%4294967296).toNat
theorem cX (x:Int):i8 x<256:=by unfold i8;omega
theorem i16_lt (x:Int):i16 x<65536:=by unfold i16;omega
theorem i32_lt (x:Int):i32 x<4294967296:=by unfold i32;omega
theorem fL (x:Int):IntKind.wrap .u8 x=(i8 x:Nat):=by rw [wrap_u8_mod];unfold i8;omega
theorem wrap_i16 (x:Int):IntKind.wrap .u16 x=(i16 x:Nat):=by rw [wrap_u16_mod];unfold i16;omega
theorem wrap_i32 (x:Int):IntKind.wrap .u32 x=(i32 x:Nat):=by rw [wrap_u32_mod];unfold i32;omega
def bit (b:Bool):Nat:=if b then 1 else 0
def dL (r:cx):List Nat:=cG 1 r.kind++(r.obj++(cG 1 (i8 r.cC)++(cG 8 r.inc++(cG 8 r.num++(cG 1 (bit r.held)++(cG 1 (i8 r.k)++cG 1 (i8 r.n)))))))
def dS (m:aZ):List Nat:=cG 2 19713++(cG 1 (i8 m.gk)++(cG 1 (i8 m.gn)++(cG 1 (i8 m.gt)++(cG 2 (i16 m.gs)++(m.cp++m.pieces.flatMap id)))))
theorem bK {h:ak} {b off:Nat} {s:Option Nat} {k A C:List Value} {l:List Nat} (g:h.get b=some k) (e:k=A++(bI l++C)) (hA:A.length=off) (hb:Bys l):aJ (some ⟨b,off,s⟩) l.length h=some l:=by
 unfold aJ
 rw [Option.bind_eq_some_iff]
 refine ⟨bI l,?_,bytesOf_map hb⟩
 have hm:=mid e hA (show (bI l).length=l.length from List.length_map ..)
 have hl:off+l.length≤k.length:=by rw [e,List.length_append,List.length_append,List.length_map,hA];omega
 simp only [cj,g,Nat.mul_one]
 by_cases h0:l.length=0
 ·rw [if_pos h0,List.length_eq_zero_iff.1 h0];rfl
 ·rw [if_neg h0,hm,if_pos ⟨hl,(u8s_ok l).1⟩]
theorem sliceBytes_put {g:ak} {b off m i v:Nat} {s:Option Nat} {k:dA} {l:List Nat} (h0:g.n0≤b) (hk:g.get b=some k) (hl:aJ (some ⟨b,off,s⟩) m g=some l) (hi:i<m) (hv:v<256) :
  ∃ h',dH 1 (ptr b (off+i)) (u8 v) g=some (undef,h')∧aJ (some ⟨b,off,s⟩) m h'=some (l.set i v)∧Kept g h' (· = b)∧h'.next=g.next:=by
 obtain ⟨hlen,hb,hat⟩:=ba hl
 obtain ⟨b',off',s',k',he,hk',hkl,hc⟩:=hat (by omega)
 cases he
 rw [hk] at hk';cases hk'
 obtain ⟨h',e1,e2,e3,_,e5⟩:=stored (v:=u8 v) (o:=off+i) hk h0 (by omega) rfl rfl
 refine ⟨h',e1,?_,e2,e5⟩
 have hcells:(k.drop off).take m=bI l:=by
  refine List.ext_getElem? fun j => ?_
  rw [List.getElem?_take]
  by_cases hj:j<m
  ·rw [if_pos hj,List.getElem?_drop,hc j hj,List.getElem?_map,List.getD_eq_getElem?_getD,List.getElem?_eq_getElem (by omega)]
   rfl
  ·rw [if_neg hj,List.getElem?_eq_none (by rw [List.length_map];omega)]
 have hsplit:(k.set (off+i) (u8 v))=k.take off++(bI (l.set i v)++k.drop (off+m)):=by
  have h1:k=k.take off++(bI l++k.drop (off+m)):=by
   rw [←hcells,←List.drop_drop,List.take_append_drop,List.take_append_drop]
  have h2:(k.take off).length=off:=by rw [List.length_take];omega
  conv=>lhs;rw [h1]
  rw [List.set_append_right _ _ (by omega),h2,Nat.add_sub_cancel_left,List.set_append_left _ _ (by rw [List.length_map];omega),show bI (l.set i v)=(bI l).set i (u8 v) from List.map_set ..]
 have hb':Bys (l.set i v):=fun x hx=>by
  rcases List.mem_or_eq_of_mem_set hx with hx|hx
  ·exact hb x hx
  ·omega
 have:=bK (off:=off) (s:=s) e3 hsplit (by rw [List.length_take];omega) hb'
 rw [List.length_set,hlen] at this
 exact this
theorem Old.of_new {a b c:ak} {d:Nat} (x:Old a b) (k:Kept b c (· = d)) (hd:a.next≤d):Old a c:=x.also k (fun e he q=>by omega)
theorem idx_bytes {a:Option Addr} {n c i:Nat} {h:ak} {l:List Nat} (e:aJ a n h=some l) (hi:i<n) : ∃ b off s k,a=some ⟨b,off,s⟩∧h.get b=some k∧cD 1 (.slice a n c) (aN i)=some (ptr b (off+i)):=by
 obtain ⟨b,off,s,k,rfl,hk,_⟩:=(ba e).2.2 (by omega)
 refine ⟨b,off,s,k,rfl,hk,?_⟩
 unfold cD
 simp only []
 rw [if_pos (by omega),Int.toNat_natCast,Nat.mul_one]
theorem set_nat {A B B':List Nat} {i v:Nat} (j:Nat) (h:A.length+j=i) (e:B.set j v=B'):(A++B).set i v=A++B':=by
 subst h
 rw [List.set_append_right _ _ (by omega),Nat.add_sub_cancel_left,e]
theorem rec_box2 (h:ak) {r:cx} (w:r.Wf) : ∃ h1,box (.agg (recC r).toArray) h=some (ptr h.next 0,h1)∧Old h h1∧h1.get h.next=some (recC r)∧h1.next=h.next+1:=by
 have g1:(h.alloc (recC r)).get h.next=some (recC r):=by rw [ak.aM,if_pos rfl]
 exact ⟨_,c9 h _ (eg w).2.2,Kept.alloc _ _ _,g1,rfl⟩
theorem is139:bB Tryz.prog 139 Tryz.f139:=⟨by kernel_rfl,by kernel_rfl,by kernel_rfl,by kernel_rfl⟩
set_option maxRecDepth 100000 in
theorem r139 {h:ak} (hG:4≤h.n0) {r:cx} (w:r.Wf) (v:eW r=true) : ∃ a c h',CW 139 [.agg (recC r).toArray] h=some (.tuple #[.slice a 53 c,.int .i64 0],h')∧aJ a 53 h'=some (dL r)∧Old h h'∧(∀ y,a=some y→h.next≤y.block):=by
 obtain ⟨h1,b1,o1,g1,n1⟩:=rec_box2 h w
 have A1:=r_ld w g1
 obtain ⟨h2,e2,o2⟩:=r138 (h:=h1) (by rw [o1.n0];exact hG) w
 rw [v] at e2
 have O2:=o1.trans o2
 have m2:=o2.next
 obtain ⟨h3,e3,W3,o3,F3⟩:=r47 h2 (by rw [O2.n0];exact hG) (lim:=53) (by decide)
 have e3:CW 47 [.int .i64 53] h2=_:=e3
 have fb:Fr h3 h2.next h.next:=F3 _ (by omega)
 have gb:h3.get h.next=some (recC r):=Old.get o3 (Old.get o2 g1)
 have K3:WS h2.next h3 h3:=WS.refl _ _
 have A3:=r_ld w gb
 obtain ⟨h4,e4,W4,k4⟩:=r50 W3 (v:=r.kind) (by simp only [List.length_nil];omega) w.kind
 have K4:=K3.trans k4
 have A4:=r_ld w ((K4.get _ fb).trans gb)
 obtain ⟨h5,e5,W5,k5⟩:=r52 W4 (n:=r.obj.length) (c:=32) (bK (off:=1) (s:=none) ((K4.get _ fb).trans gb) (A := [.int .u8 (r.kind:Int)]) rfl rfl w.obj.2) (fun y hy _=>by cases hy;exact K4.fr _ fb) (by simp only [List.length_append, aF, List.length_nil, w.obj.1];omega)
 have K5:=K4.trans k5
 have A5:=r_ld w ((K5.get _ fb).trans gb)
 obtain ⟨h6,e6,W6,k6⟩:=r50 W5 (v:=i8 r.cC) (by simp only [List.length_append, aF, List.length_nil, w.obj.1];omega) (cX _)
 have K6:=K5.trans k6
 have A6:=r_ld w ((K6.get _ fb).trans gb)
 obtain ⟨h7,e7,W7,k7⟩:=r126 W6 (v:=r.inc) (by simp only [List.length_append, aF, List.length_nil, w.obj.1];omega) w.inc
 have K7:=K6.trans k7
 have A7:=r_ld w ((K7.get _ fb).trans gb)
 obtain ⟨h8,e8,W8,k8⟩:=r126 W7 (v:=r.num) (by simp only [List.length_append, aF, List.length_nil, w.obj.1];omega) w.num
 have K8:=K7.trans k8
 have A8:=r_ld w ((K8.get _ fb).trans gb)
 obtain ⟨h9,e9,W9,k9⟩:=r50 W8 (v:=0) (by simp only [List.length_append, aF, List.length_nil, w.obj.1];omega) (by decide)
 have K9:=K8.trans k9
 have A9:=r_ld w ((K9.get _ fb).trans gb)
 obtain ⟨h10,e10,W10,k10⟩:=r50 W9 (v:=i8 r.k) (by simp only [List.length_append, aF, List.length_nil, w.obj.1];omega) (cX _)
 have K10:=K9.trans k10
 have A10:=r_ld w ((K10.get _ fb).trans gb)
 obtain ⟨h11,e11,W11,k11⟩:=r50 W10 (v:=i8 r.n) (by simp only [List.length_append, aF, List.length_nil, w.obj.1];omega) (cX _)
 have K11:=K10.trans k11
 have A11:=r_ld w ((K11.get _ fb).trans gb)
 have a5:(32:Nat)=r.obj.length:=w.obj.1.symm
 have e5:CW 52 [ptr h2.next 0,.slice (some ⟨h.next,1,none⟩) 32 32] h4=some (.tuple #[],h5):=by
  have:=e5
  rw [w.obj.1] at this
  exact this
 have e9:CW 50 [ptr h2.next 0,.int .u8 0] h8=some (.tuple #[],h9):=e9
 obtain ⟨a,c,h12,e12,s12,_,o12,f12⟩:=r48 W11 (by simp only [List.length_append, aF, List.length_nil, w.obj.1];decide)
 have hL:(((((((([]++cG 1 r.kind)++r.obj)++cG 1 (i8 r.cC))++cG 8 r.inc)++cG 8 r.num)++cG 1 0)++cG 1 (i8 r.k))++cG 1 (i8 r.n)).length=53:=by simp only [List.length_append, aF, List.length_nil, w.obj.1]
 have o212:Old h2 h12:=by
  refine ⟨by rw [o12.n0,K11.n0,o3.n0],Nat.le_trans o3.next (Nat.le_trans K11.next o12.next),fun d hd _ => ?_⟩
  have f3:=F3 d hd
  exact (Kept.get o12 d (Nat.lt_of_lt_of_le f3.1 K11.next) (fun h=>h)).trans ((K11.get d f3).trans (Kept.get o3 d hd (fun h=>h)))
 have A12:=r_ld w (Old.get o212 (Old.get o2 g1))
 rw [hL] at e12 s12
 have hle:h.next≤h11.next:=by have:=Nat.le_trans o3.next K11.next;omega
 have hs3:bin Tryz.prog .sub 3 (aN 53) (.int .i64 3)=some (aN 50):=sub3 (b:=3) (by decide) (by decide)
 have hl53:bE (.slice a 53 c)=some (aN 53):=rfl
 cases hh:r.held with
 |false=>
  refine ⟨a,c,h12,aG is139 hG rfl ((t139_eq _ _ _).trans ?_),?_,O2.trans o212,fun y hy=>Nat.le_trans hle (f12 y hy)⟩
  ·have dP:aK (ptr h.next 36) h12=some (.bool false,h12):=by rw [A12.dP,hh]
   unfold t139
   simp -implicitDefEqProofs only [b1, A1.all, e2, e3, A3.l0, e4, arr32, e5, A5.l33, bX, fL, e6, A6.l34, e7, A7.l35, e8, e9, A9.l37, e10, A10.l38, e11, e12, bM, bN, dP, ah, aq, ao, Nat.zero_add, Bool.not_true, au]
  ·rw [s12]
   unfold dL bit
   rw [hh]
   simp only [List.append_assoc,List.nil_append,Bool.false_eq_true,if_false]
 |true=>
  obtain ⟨b,off,s,k,rfl,hk,hix⟩:=idx_bytes (c:=c) (i:=50) s12 (by decide)
  have hbn:h11.next≤b:=f12 _ rfl
  obtain ⟨h13,e13,s13,k13,n13⟩:=sliceBytes_put (i:=50) (v:=1) (by rw [o212.n0];have:=h2.bg;have:=Nat.le_trans o3.next K11.next;omega) hk s12 (by decide) (by decide)
  refine ⟨some ⟨b,off,s⟩,c,h13,aG is139 hG rfl ((t139_eq _ _ _).trans ?_),?_,Old.of_new (O2.trans o212) k13 (Nat.le_trans hle hbn),fun y hy=>by cases hy;exact Nat.le_trans hle hbn⟩
  ·have dP:aK (ptr h.next 36) h12=some (.bool true,h12):=by rw [A12.dP,hh]
   have e13:dH 1 (ptr b (off+50)) (.int .u8 1) h12=some (undef,h13):=e13
   unfold t139
   simp -implicitDefEqProofs only [b1, A1.all, e2, e3, A3.l0, e4, arr32, e5, A5.l33, bX, fL, e6, A6.l34, e7, A7.l35, e8, e9, A9.l37, e10, A10.l38, e11, e12, bM, bN, dP, hl53, hs3, hix, e13, ah, aq, ao, Nat.zero_add, Bool.not_true, au]
  ·rw [s13]
   unfold dL bit
   rw [hh]
   simp only [List.append_assoc,List.nil_append,if_true]
   congr 1
   rw [show cG 1 r.kind++(r.obj++(cG 1 (i8 r.cC)++(cG 8 r.inc++(cG 8 r.num++(cG 1 0++(cG 1 (i8 r.k)++cG 1 (i8 r.n)))))))=(cG 1 r.kind++(r.obj++(cG 1 (i8 r.cC)++(cG 8 r.inc++cG 8 r.num))))++(cG 1 0++(cG 1 (i8 r.k)++cG 1 (i8 r.n))) by simp only [List.append_assoc],
    set_nat (B':=cG 1 1++(cG 1 (i8 r.k)++cG 1 (i8 r.n))) 0 (by simp only [List.length_append, aF, w.obj.1]) rfl]
   simp only [List.append_assoc]
end Go.Proofs.YtjghlcdidopcpaaGreatDoor

namespace Go.Proofs.YtjghlcdidopcpaaGreatDoor
open Go Go.Abs
attribute [local congr] aP
def FrV (h:ak) (w:Nat) (v:Value):Prop := ∀ b,slB v=some b→Fr h w b
structure FrS (h:ak) (w:Nat) (s:cP):Prop where
 a:FrV h w s.a
 b:FrV h w s.b
 c:FrV h w s.c
 d:FrV h w s.d
 e:FrV h w s.e
 f:FrV h w s.f
theorem FrV.ws {h h':ak} {w:Nat} {v:Value} (f:FrV h w v) (k:WS w h h'):FrV h' w v:=fun b hb=>k.fr b (f b hb)
theorem FrS.ws {h h':ak} {w:Nat} {s:cP} (f:FrS h w s) (k:WS w h h'):FrS h' w s:=⟨f.a.ws k,f.b.ws k,f.c.ws k,f.d.ws k,f.e.ws k,f.f.ws k⟩
theorem dn.ws {h h':ak} {ks:List Kd} {v:Value} {n:Nat} {cs:List Value} {w:Nat} (x:dn h ks v n cs) (f:FrV h w v) (k:WS w h h'):dn h' ks v n cs:=by
 obtain ⟨a,c,rfl,h1,h2,h3⟩:=x
 refine ⟨a,c,rfl,h1,h2,fun hn => ?_⟩
 obtain ⟨b,off,s,q,rfl,h4,h5⟩:=h3 hn
 obtain ⟨m,rfl⟩ : ∃ m,n=m+1:=⟨n-1,by omega⟩
 exact ⟨b,off,s,q,rfl,(k.get b (f b rfl)).trans h4,h5⟩
theorem dn.bytes {h:ak} {v:Value} {l:List Nat} (x:dn h [.u8] v l.length (bI l)) (hb:Bys l) : ∃ a c,v = .slice a l.length c∧aJ a l.length h=some l∧(∀ y,a=some y→0<l.length→slB v=some y.block):=by
 obtain ⟨a,c,rfl,h1,h2,h3⟩:=x
 refine ⟨a,c,rfl,?_,fun y hy hn => ?_⟩
 ·by_cases h0:l.length=0
  ·have:l = []:=List.length_eq_zero_iff.1 h0
   subst this
   cases a with
   |none=>rfl
   |some y=>unfold aJ cj;simp;rfl
  ·obtain ⟨b,off,s,k,rfl,g,h4,h5⟩:=h3 (by omega)
   have h5:(k.drop off).take (l.length*1)=bI l:=h5
   have h4:off+l.length*1≤k.length:=h4
   rw [Nat.mul_one] at h4 h5
   have e:k=k.take off++(bI l++k.drop (off+l.length)):=by rw [←h5,←List.drop_drop,List.take_append_drop,List.take_append_drop]
   exact bK g e (by rw [List.length_take];omega) hb
 ·subst hy
  obtain ⟨m,hm⟩ : ∃ m,l.length=m+1:=⟨l.length-1,by omega⟩
  rw [hm]
  rfl
theorem eZ {α:Type} {f:α→List Nat} {z:Nat} : ∀ (l:List α),(∀ a∈l,(f a).length=z)→(l.flatMap f).length=l.length*z
 | [],_=>by simp
 |a::l,h=>by
  have ih:=eZ l (fun b hb=>h b (List.mem_cons_of_mem _ hb))
  rw [List.flatMap_cons,List.length_append,ih,h a (List.mem_cons_self ..),List.length_cons,Nat.add_mul]
  omega
theorem flat_snoc {α:Type} {f:α→List Nat} {l:List α} {i:Nat} {a:α} (h:l[i]? = some a):(l.take (i+1)).flatMap f=(l.take i).flatMap f++f a:=by
 rw [List.take_add_one,h]
 simp
def fj (m:eh):List Nat:=cG 8 m.inc++cG 1 m.st
def fc (t:List eh):List Nat:=cG 1 t.length++t.flatMap fj
def text (l:List Nat):List Nat:=cG 2 l.length++l
def bPing (m:aZ):List Nat:=cG 8 m.seq++(cG 1 (i8 m.origin)++fc m.table)
def bReq (m:aZ):List Nat:=cG 8 m.seq++(cG 1 (i8 m.target)++fc m.table)
def bSum (m:aZ):List Nat:=text m.low++(text m.high++(cG 4 (i32 m.count)++m.root))
def eN (m:aZ):List Nat:=text m.low++(text m.high++(cG 1 (bit m.b7)++(cG 2 m.bC.length++m.bC.flatMap dL)))
def bPiece (m:aZ):List Nat:=m.obj++(text (dS m)++(cG 2 (i16 m.cg)++text m.data))
def bStored (m:aZ):List Nat:=m.obj++cG 2 (i16 m.code)
theorem encMem_len (m:eh):(fj m).length=9:=by unfold fj;simp only [List.length_append,aF]
theorem encRec_len {r:cx} (w:r.Wf):(dL r).length=53:=by unfold dL;simp only [List.length_append,aF,w.obj.1]
theorem bj (l:List Nat):(text l).length=2+l.length:=by unfold text;simp only [List.length_append,aF]
theorem encMan_len {m:aZ} (w:m.Wf):(dS m).length=39+m.pieces.length*32:=by
 unfold dS
 simp only [List.length_append,aF,w.cp.1,eZ (f:=id) (z:=32) m.pieces (fun l hl=>(w.pieces l hl).1)]
 omega
theorem el_dig {l:List (List Nat)} {i:Nat} {p:List Nat} (hw : ∀ x∈l,D32 x) (hm:l[i]? = some p):el 32 (l.flatMap bI) i=bI p:=by
 have key : ∀ (l:List (List Nat)) (i:Nat),(∀ x∈l,D32 x)→l[i]? = some p→el 32 (l.flatMap bI) i=bI p:=by
  intro l
  induction l with
  |nil=>intro i _ h;cases h
  |cons a l ih=>
   intro i hw h
   have ha:(bI a).length=32:=b6 (hw a (List.mem_cons_self ..))
   cases i with
   |zero=>
    cases h
    unfold el
    rw [Nat.zero_mul,List.drop_zero,List.flatMap_cons,←ha,List.take_left]
   |succ i=>
    have h:l[i]? = some p:=h
    have:=ih i (fun x hx=>hw x (List.mem_cons_of_mem _ hx)) h
    unfold el at this ⊢
    rw [List.flatMap_cons,show (i+1)*32=(bI a).length+i*32 by rw [Nat.add_mul,ha];omega,List.drop_length_add_append]
    exact this
 exact key l i hw hm
theorem is127:bB Tryz.prog 127 Tryz.f127:=⟨by kernel_rfl,by kernel_rfl,by kernel_rfl,by kernel_rfl⟩
theorem results127:Tryz.f127.results.toList = []:=by kernel_rfl
def tbInv (h0:ak) (N w lim:Nat) (L:List Nat) (v:Value) (t:List eh) (k:Nat) (y:Nat→Value) (g:ak):Prop:=
 ∃ i,i+k=t.length∧y 0=ptr w 0∧y 11=v∧y 12=aN t.length∧y 13=aN i∧WS w h0 g∧IsW g N w lim (L++(t.take i).flatMap fj)
def tbFin (h0:ak) (N w lim:Nat) (L:List Nat) (t:List eh) (ex:Ex) (_:Nat→Value) (g:ak):Prop:=
 ex = .exit 0∧WS w h0 g∧IsW g N w lim (L++t.flatMap fj)
theorem tbRound {h0:ak} {N w lim:Nat} {L:List Nat} {v:Value} {t:List eh} (x:dn h0 memK v t.length (t.flatMap eV)) (F:FrV h0 w v) (hw : ∀ x∈t,x.Wf) (hl:t.length≤255) (hfit:L.length+t.length*9≤lim) :
  ∀ k y g,tbInv h0 N w lim L v t k y g→dw 26 (tbInv h0 N w lim L v t) (tbFin h0 N w lim L t) k (t127l127_110 CW y g):=by
 rintro k y g ⟨i,hik,y0,y11,y12,y13,K,W⟩
 unfold t127l127_110
 by_cases hi:i<t.length
 ·obtain ⟨b,q,kb,_,a1,_,_,_,a2,_⟩:=(x.ws F K).at hi
  obtain ⟨m,hm⟩ : ∃ m,t[i]? = some m:=⟨t[i],List.getElem?_eq_getElem hi⟩
  have wm:=hw m (List.mem_of_getElem? hm)
  have a1:cD 2 v (aN i)=some (ptr b (q+i*2)):=a1
  have a2:bP 2 (ptr b (q+i*2)) g=some (.agg (el 2 (t.flatMap eV) i).toArray,g):=a2
  rw [el_flat157 hw hm] at a2
  have hlen:((t.take i).flatMap fj).length=i*9:=by
   rw [eZ (z:=9) _ (fun a _=>encMem_len a),List.length_take,Nat.min_eq_left (by omega)]
  have hi9:i*9+9≤t.length*9:=mul_le hi
  obtain ⟨g1,z1,o1,q1,n1⟩:=fresh [(.int .u64 0),(.int .u8 0)] g
  have p1:g1.n0≤g.next:=by rw [o1.n0];exact g.bg
  obtain ⟨g2,t2,k2,q2,_,n2⟩:=dr (n:=2) (k':=eV m) q1 p1 rfl rfl rfl
  have o2:Old g g2:=Old.of_new o1 k2 (Nat.le_refl _)
  have W2:=W.bm o2
  have f2:Fr g2 w g.next:=W.fr o2 (Nat.le_refl _) (by omega)
  have l0:aK (ptr g.next 0) g2=some (.int .u64 (m.inc:Int),g2):=bf q2 rfl
  obtain ⟨g3,e3,W3,k3⟩:=r126 W2 (v:=m.inc) (by rw [List.length_append,hlen];omega) wm.inc
  have l1:aK (ptr g.next 1) g3=some (.int .u8 (m.st:Int),g3):=bf ((k3.get _ f2).trans q2) rfl
  obtain ⟨g4,e4,W4,k4⟩:=r50 W3 (v:=m.st) (by rw [List.length_append,List.length_append,hlen,aF];omega) wm.st
  simp -implicitDefEqProofs only [y13, y12, dI, decide_eq_true hi, y11, a1, a2, z1, t2, y0, l0, e3, l1, e4, eT (show i+1≤9223372036854775807 by omega), ah, aq, ao, Nat.zero_add]
  refine dw.next (k-1) (by omega) ⟨i+1,by omega,y0,y11,y12,rfl,((K.trans (WS.ff W.lt o2)).trans k3).trans k4,?_⟩
  rw [flat_snoc hm]
  show IsW g4 N w lim (L++((t.take i).flatMap fj++(cG 8 m.inc++cG 1 m.st)))
  simpa only [List.append_assoc] using W4
 ·simp -implicitDefEqProofs only [y13,y12,dI,decide_eq_false hi,ah,aq]
  refine dw.out 0 ⟨rfl,K,?_⟩
  rw [List.take_of_length_le (by omega)] at W
  exact W
theorem r127 {h:ak} {N w lim:Nat} {l:List Nat} {v:Value} {t:List eh} (W:IsW h N w lim l) (x:dn h memK v t.length (t.flatMap eV)) (F:FrV h w v) (hw : ∀ x∈t,x.Wf) (hl:t.length≤255) (hfit:l.length+(1+t.length*9)≤lim) :
  ∃ h',CW 127 [ptr w 0,v] h=some (.tuple #[],h')∧IsW h' N w lim (l++fc t)∧WS w h h':=by
 have hw8:IntKind.wrap .u8 ((t.length:Nat):Int)=(t.length:Int):=wrap_u8 (by omega) (by omega)
 obtain ⟨h1,e1,W1,k1⟩:=r50 W (v:=t.length) (by omega) (by omega)
 have key : ∃ h',t127 CW (ptr w 0) v h=some (.tuple #[],h')∧IsW h' N w lim (l++fc t)∧WS w h h':=by
  unfold t127
  simp -implicitDefEqProofs only [ah,x.len,aq,aN,bX,hw8,e1]
  refine cy (Q:=fun o:Out => ∃ h',o=some (Value.tuple #[],h')∧IsW h' N w lim (l++fc t)∧WS w h h') (cn (t127l127_110_eq CW) (tbRound (L:=l++cG 1 t.length) (N:=N) (lim:=lim) (x.ws F k1) (F.ws k1) hw hl (by rw [List.length_append,aF];omega)) t.length (by have:rounds=18446744073709551616:=rfl;omega)
   ⟨0,Nat.zero_add _,rfl,rfl,rfl,rfl,WS.refl _ _,by simpa using W1⟩) ?_
  rintro ex z g ⟨rfl,K,W'⟩
  rw [bG]
  unfold b127_2
  rw [if_pos rfl,results127]
  refine ⟨g,rfl,?_,k1.trans K⟩
  unfold fc
  simpa only [List.append_assoc] using W'
 obtain ⟨h',e,W',K⟩:=key
 exact ⟨h',aG is127 W.g4 rfl ((t127_eq _ _ _ _).trans e),W',K⟩
theorem is132:bB Tryz.prog 132 Tryz.f132:=⟨by kernel_rfl,by kernel_rfl,by kernel_rfl,by kernel_rfl⟩
theorem b132_exit (C:av) (e:Env) (h:ak):b132_14 C 0 e h=k132_12 C e h:=rfl
def mnInv (h0:ak) (N w lim:Nat) (L:List Nat) (v:Value) (t:List (List Nat)) (k:Nat) (y:Nat→Value) (g:ak):Prop:=
 ∃ i,i+k=t.length∧y 5=ptr w 0∧y 45=v∧y 46=aN t.length∧y 47=aN i∧WS w h0 g∧IsW g N w lim (L++(t.take i).flatMap id)
def mnFin (h0:ak) (N w lim:Nat) (L:List Nat) (t:List (List Nat)) (ex:Ex) (y:Nat→Value) (g:ak):Prop:=
 ex = .exit 0∧y 5=ptr w 0∧WS w h0 g∧IsW g N w lim (L++t.flatMap id)
theorem mnRound {h0:ak} {N w lim:Nat} {L:List Nat} {v:Value} {t:List (List Nat)} (x:dn h0 fF v t.length (t.flatMap bI)) (F:FrV h0 w v) (hw : ∀ x∈t,D32 x) (hl:t.length≤255) (hfit:L.length+t.length*32≤lim) :
  ∀ k y g,mnInv h0 N w lim L v t k y g→dw 59 (mnInv h0 N w lim L v t) (mnFin h0 N w lim L t) k (dc CW y g):=by
 rintro k y g ⟨i,hik,y5,y45,y46,y47,K,W⟩
 unfold dc
 by_cases hi:i<t.length
 ·obtain ⟨b,q,kb,_,a1,_,_,_,a2,_⟩:=(x.ws F K).at hi
  obtain ⟨m,hm⟩ : ∃ m,t[i]? = some m:=⟨t[i],List.getElem?_eq_getElem hi⟩
  have wm:=hw m (List.mem_of_getElem? hm)
  have a1:cD 32 v (aN i)=some (ptr b (q+i*32)):=a1
  have a2:bP 32 (ptr b (q+i*32)) g=some (.agg (el 32 (t.flatMap bI) i).toArray,g):=a2
  rw [el_dig hw hm] at a2
  have hlen:((t.take i).flatMap id).length=i*32:=by
   rw [eZ (f:=id) (z:=32) _ (fun a ha=>(hw a (List.mem_of_mem_take ha)).1),List.length_take,Nat.min_eq_left (by omega)]
  have hi9:i*32+32≤t.length*32:=mul_le hi
  obtain ⟨g1,z1,o1,q1,n1⟩:=fresh (List.replicate 32 (.int .u8 0)) g
  have p1:g1.n0≤g.next:=by rw [o1.n0];exact g.bg
  obtain ⟨g2,t2,k2,q2,_,n2⟩:=dr (n:=32) (k':=bI m) q1 p1 rfl (b6 wm) (u8s_ok m).2
  have o2:Old g g2:=Old.of_new o1 k2 (Nat.le_refl _)
  have W2:=W.bm o2
  have f2:Fr g2 w g.next:=W.fr o2 (Nat.le_refl _) (by omega)
  have sb:aJ (some ⟨g.next,0,none⟩) m.length g2=some m:=bK (A := []) (C := []) q2 (by simp) rfl wm.2
  obtain ⟨g3,e3,W3,k3⟩:=r52 W2 (c:=32) sb (fun y hy _=>by cases hy;exact f2) (by rw [List.length_append,hlen,wm.1];omega)
  rw [wm.1] at e3
  simp -implicitDefEqProofs only [y47, y46, dI, decide_eq_true hi, y45, a1, a2, z1, t2, y5, arr32, e3, eT (show i+1≤9223372036854775807 by omega), ah, aq]
  refine dw.next (k-1) (by omega) ⟨i+1,by omega,y5,y45,y46,rfl,(K.trans (WS.ff W.lt o2)).trans k3,?_⟩
  rw [flat_snoc hm,←List.append_assoc]
  exact W3
 ·simp -implicitDefEqProofs only [y47,y46,dI,decide_eq_false hi,ah,aq]
  refine dw.out 0 ⟨rfl,y5,K,?_⟩
  rw [List.take_of_length_le (by omega)] at W
  exact W
theorem man_fine {m:aZ} (v:dp m=false):1≤m.gk∧m.gk≤m.gn∧m.gn≤m.gt∧m.gt≤255∧0≤m.gs∧m.gs≤8192∧(m.pieces.length:Int)=m.gt:=by
 unfold dp sizesB at v
 simp only [Bool.or_eq_false_iff,Bool.not_eq_false',Bool.and_eq_true,decide_eq_true_eq,decide_eq_false_iff_not,bne_eq_false_iff_eq] at v
 omega
set_option maxRecDepth 100000 in
theorem r132 {h:ak} {s:cP} {m:aZ} (hG:4≤h.n0) (x:ej h s m) (v:dp m=false) : ∃ a c h',CW 132 [gv m s] h=some (.tuple #[.slice a (dS m).length c,.int .i64 0],h')∧aJ a (dS m).length h'=some (dS m)∧Old h h'∧(∀ y,a=some y→h.next≤y.block):=by
 have mo:=man_ok x.sl (aZ.ok x.wf)
 obtain ⟨v1,v2,v3,v4,v5,v6,v7⟩:=man_fine v
 obtain ⟨h1,b1,o1,g1,n1⟩ : ∃ h1,box (gv m s) h=some (ptr h.next 0,h1)∧Old h h1∧h1.get h.next=some (m.d.dv s)∧h1.next=h.next+1:=
  ⟨_,c9 h (m.d.dv s) mo.2.1,Kept.alloc _ _ _,by rw [ak.aM,if_pos rfl],rfl⟩
 have hG1:4≤h1.n0:=by rw [o1.n0];exact hG
 have l37:bP 37 (ptr h.next 0) h1=some (gv m s,h1):=ldN_all g1 mo.2.2 mo.1
 obtain ⟨h2,e2,o2⟩:=r131 hG1 (x.bm o1)
 rw [v] at e2
 have O2:=o1.trans o2
 have m2:=o2.next
 have hmul:bin Tryz.prog .mul 3 (.int .i64 32) (.int .i64 m.gt)=some (.int .i64 (32*m.gt)):=by
  rw [bin_mul,dX (by omega) (by omega)]
 have hadd:bin Tryz.prog .add 3 (.int .i64 39) (.int .i64 (32*m.gt))=some (aN (39+m.pieces.length*32)):=by
  rw [bin_add,dX (by omega) (by omega)]
  exact congrArg (fun z=>some (Value.int .i64 z)) (by omega)
 obtain ⟨h3,e3,W3,o3,F3⟩:=r47 h2 (by rw [O2.n0];exact hG) (lim:=39+m.pieces.length*32) (by omega)
 have fb:Fr h3 h2.next h.next:=F3 _ (by omega)
 have g2:=Old.get o2 g1
 have gb:h3.get h.next=some (m.d.dv s):=Old.get o3 g2
 have K3:WS h2.next h3 h3:=WS.refl _ _
 have l2:aK (ptr h.next 2) h2=some (.int .i64 m.gt,h2):=bf g2 rfl
 obtain ⟨h4,e4,W4,k4⟩:=r49 W3 (v:=19713) (by simp only [List.length_nil];omega) (by decide)
 have K4:=K3.trans k4
 have A4:=(fB x.sl (aZ.ok x.wf) ((K4.get _ fb).trans gb))
 obtain ⟨h5,e5,W5,k5⟩:=r50 W4 (v:=i8 m.gk) (by simp only [List.length_append, aF, List.length_nil];omega) (cX _)
 have K5:=K4.trans k5
 have A5:=(fB x.sl (aZ.ok x.wf) ((K5.get _ fb).trans gb))
 obtain ⟨h6,e6,W6,k6⟩:=r50 W5 (v:=i8 m.gn) (by simp only [List.length_append, aF, List.length_nil];omega) (cX _)
 have K6:=K5.trans k6
 have A6:=(fB x.sl (aZ.ok x.wf) ((K6.get _ fb).trans gb))
 obtain ⟨h7,e7,W7,k7⟩:=r50 W6 (v:=i8 m.gt) (by simp only [List.length_append, aF, List.length_nil];omega) (cX _)
 have K7:=K6.trans k7
 have A7:=(fB x.sl (aZ.ok x.wf) ((K7.get _ fb).trans gb))
 obtain ⟨h8,e8,W8,k8⟩:=r49 W7 (v:=i16 m.gs) (by simp only [List.length_append, aF, List.length_nil];omega) (i16_lt _)
 have K8:=K7.trans k8
 have A8:=(fB x.sl (aZ.ok x.wf) ((K8.get _ fb).trans gb))
 obtain ⟨h9,e9,W9,k9⟩:=r52 W8 (n:=m.cp.length) (c:=32) (bK (off:=4) (s:=none) ((K8.get _ fb).trans gb) (A := [.int .i64 m.gk,.int .i64 m.gn,.int .i64 m.gt,.int .i64 m.gs]) rfl rfl x.wf.cp.2) (fun y hy _=>by cases hy;exact K8.fr _ fb) (by simp only [List.length_append, aF, List.length_nil, x.wf.cp.1];omega)
 have K9:=K8.trans k9
 have A9:=(fB x.sl (aZ.ok x.wf) ((K9.get _ fb).trans gb))
 rw [x.wf.cp.1] at e9
 have g9:h9.get h.next=some (m.d.dv s):=(K9.get _ fb).trans gb
 have j0:aK (ptr h.next 0) h4=some (.int .i64 m.gk,h4):=A4.l0
 have j1:aK (ptr h.next 1) h5=some (.int .i64 m.gn,h5):=A5.l1
 have j2:aK (ptr h.next 2) h6=some (.int .i64 m.gt,h6):=A6.l2
 have j3:aK (ptr h.next 3) h7=some (.int .i64 m.gs,h7):=A7.l3
 have x3:=x.sl.e.bm (O2.trans o3)
 have Fe:FrV h3 h2.next s.e:=fun b hb=>F3 b (Nat.lt_of_lt_of_le (x.sl.e.lt hb) (Nat.le_trans O2.next (Nat.le_refl _)))
 have hL:(((((([]++cG 2 19713)++cG 1 (i8 m.gk))++cG 1 (i8 m.gn))++cG 1 (i8 m.gt))++cG 2 (i16 m.gs))++m.cp).length=39:=by simp only [List.length_append, aF, List.length_nil, x.wf.cp.1]
 have e4:CW 49 [ptr h2.next 0,.int .u16 19713] h3=some (.tuple #[],h4):=e4
 have z35:bin Tryz.prog .neq 35 (.int .i64 0) (.int .i64 0)=some (.bool false):=by rw [aA];rfl
 have key : ∃ a c h',t132 CW (gv m s) h=some (.tuple #[.slice a (dS m).length c,.int .i64 0],h')∧aJ a (dS m).length h'=some (dS m)∧Old h h'∧(∀ y,a=some y→h.next≤y.block):=by
  unfold t132
  simp -implicitDefEqProofs only [b1, l37, e2, if_false, Bool.false_eq_true, z35, l2, hmul, hadd, e3, e4, j0, fL, wrap_i16, bX, e5, j1, e6, j2, e7, j3, e8, arr32, e9, A9.dP, x.len.2.2.2.2.1, ah, aq, ao, Nat.zero_add]
  refine cy (Q:=fun o:Out => ∃ a c h',o=some (Value.tuple #[.slice a (dS m).length c,.int .i64 0],h')∧aJ a (dS m).length h'=some (dS m)∧Old h h'∧(∀ y,a=some y→h.next≤y.block)) (cn (t132l132_111111111010_eq CW) (mnRound (N:=h2.next) (w:=h2.next) (lim:=39+m.pieces.length*32) (x3.ws Fe K9) (Fe.ws K9) x.wf.pieces (by omega) (by rw [hL];exact Nat.le_refl _)) m.pieces.length (by have:rounds=18446744073709551616:=rfl;omega)
   ⟨0,Nat.zero_add _,rfl,rfl,rfl,rfl,WS.refl _ _,by simpa using W9⟩) ?_
  rintro ex z g ⟨rfl,z5,K,W'⟩
  rw [bG,b132_exit,t132k132_12_eq]
  unfold t132k132_12
  have hE:(((((([]++cG 2 19713)++cG 1 (i8 m.gk))++cG 1 (i8 m.gn))++cG 1 (i8 m.gt))++cG 2 (i16 m.gs))++m.cp)++m.pieces.flatMap id=dS m:=by
   unfold dS
   simp only [List.append_assoc,List.nil_append]
  rw [hE] at W'
  obtain ⟨a,c,h',e,sb,_,o,f⟩:=r48 W' (by rw [encMan_len x.wf];omega)
  have KK:=K9.trans K
  refine ⟨a,c,h',by simp -implicitDefEqProofs only [z5,e,bM,bN,ah,aq],sb,?_,fun y hy => ?_⟩
  ·refine ⟨by rw [o.n0,KK.n0,o3.n0,O2.n0],Nat.le_trans O2.next (Nat.le_trans o3.next (Nat.le_trans KK.next o.next)),fun d hd _ => ?_⟩
   have hd2:d<h2.next:=Nat.lt_of_lt_of_le hd O2.next
   have f3:=F3 d hd2
   exact (Kept.get o d (Nat.lt_of_lt_of_le f3.1 KK.next) (fun h=>h)).trans ((KK.get d f3).trans ((Kept.get o3 d hd2 (fun h=>h)).trans (Kept.get O2 d hd (fun h=>h))))
  ·have:=f y hy
   have:=Nat.le_trans O2.next (Nat.le_trans o3.next KK.next)
   omega
 obtain ⟨a,c,h',e,r1,r2,r3⟩:=key
 exact ⟨a,c,h',aG is132 hG rfl ((t132_eq _ _ _).trans e),r1,r2,r3⟩
end Go.Proofs.YtjghlcdidopcpaaGreatDoor

namespace Go.Proofs.YtjghlcdidopcpaaGreatDoor
open Go Go.Abs
attribute [local congr] aP
theorem bo (t:List eh):(fc t).length=1+t.length*9:=by
 unfold fc
 rw [List.length_append,aF,eZ (z:=9) _ (fun a _=>encMem_len a)]
theorem eK {t:List cx} (hw : ∀ x∈t,x.Wf):(t.flatMap dL).length=t.length*53:=eZ (z:=53) _ (fun a ha=>encRec_len (hw a ha))
theorem is97:bB Tryz.prog 97 Tryz.f97:=⟨by kernel_rfl,by kernel_rfl,by kernel_rfl,by kernel_rfl⟩
set_option maxRecDepth 100000 in
theorem r97 {h:ak} {N w lim:Nat} {l:List Nat} {s:cP} {m:aZ} (W:IsW h N w lim l) (x:ej h s m) (F:FrS h w s) (ht:m.table.length≤255) (hfit:l.length+(bPing m).length≤lim) : ∃ h',CW 97 [ptr w 0,mv m s] h=some (.tuple #[],h')∧IsW h' N w lim (l++bPing m)∧WS w h h':=by
 obtain ⟨h1,b1,o1,x1,A1,n1,-⟩:=dg x
 have W1:=W.bm o1
 have k1:=WS.ff W.lt o1
 have K1:=k1
 have fb:Fr h1 w h.next:=W.fr o1 (Nat.le_refl _) (by omega)
 have gb:=A1.g
 have F1:=F.ws K1
 have J1:WS w h1 h1:=WS.refl _ _
 obtain ⟨h2,e2,W2,k2⟩:=r126 W1 (v:=m.seq) (by unfold bPing at hfit;simp only [List.length_append, aF, bo] at hfit ⊢;omega) x.wf.seq
 have J2:=J1.trans k2
 have A2:=bW x ((J2.get _ fb).trans gb)
 obtain ⟨h3,e3,W3,k3⟩:=r50 W2 (v:=i8 m.origin) (by unfold bPing at hfit;simp only [List.length_append, aF, bo] at hfit ⊢;omega) (cX _)
 have J3:=J2.trans k3
 have A3:=bW x ((J3.get _ fb).trans gb)
 obtain ⟨h4,e4,W4,k4⟩:=r127 W3 (x1.sl.a.ws F1.a J3) (F1.a.ws J3) x.wf.table ht (by unfold bPing at hfit;simp only [List.length_append, aF, bo] at hfit ⊢;omega)
 have J4:=J3.trans k4
 have A4:=bW x ((J4.get _ fb).trans gb)
 refine ⟨h4,aG is97 W.g4 rfl ((t97_eq _ _ _ _).trans ?_),?_,K1.trans J4⟩
 ·unfold t97
  simp -implicitDefEqProofs only [b1, A1.l3, A2.l4, A3.l6, bX, fL, e2, e3, e4, ah, aq, ao, Nat.zero_add]
 ·unfold bPing
  simpa only [List.append_assoc] using W4
theorem is100:bB Tryz.prog 100 Tryz.f100:=⟨by kernel_rfl,by kernel_rfl,by kernel_rfl,by kernel_rfl⟩
set_option maxRecDepth 100000 in
theorem r100 {h:ak} {N w lim:Nat} {l:List Nat} {s:cP} {m:aZ} (W:IsW h N w lim l) (x:ej h s m) (F:FrS h w s) (ht:m.table.length≤255) (hfit:l.length+(bReq m).length≤lim) : ∃ h',CW 100 [ptr w 0,mv m s] h=some (.tuple #[],h')∧IsW h' N w lim (l++bReq m)∧WS w h h':=by
 obtain ⟨h1,b1,o1,x1,A1,n1,-⟩:=dg x
 have W1:=W.bm o1
 have k1:=WS.ff W.lt o1
 have K1:=k1
 have fb:Fr h1 w h.next:=W.fr o1 (Nat.le_refl _) (by omega)
 have gb:=A1.g
 have F1:=F.ws K1
 have J1:WS w h1 h1:=WS.refl _ _
 obtain ⟨h2,e2,W2,k2⟩:=r126 W1 (v:=m.seq) (by unfold bReq at hfit;simp only [List.length_append, aF, bo] at hfit ⊢;omega) x.wf.seq
 have J2:=J1.trans k2
 have A2:=bW x ((J2.get _ fb).trans gb)
 obtain ⟨h3,e3,W3,k3⟩:=r50 W2 (v:=i8 m.target) (by unfold bReq at hfit;simp only [List.length_append, aF, bo] at hfit ⊢;omega) (cX _)
 have J3:=J2.trans k3
 have A3:=bW x ((J3.get _ fb).trans gb)
 obtain ⟨h4,e4,W4,k4⟩:=r127 W3 (x1.sl.a.ws F1.a J3) (F1.a.ws J3) x.wf.table ht (by unfold bReq at hfit;simp only [List.length_append, aF, bo] at hfit ⊢;omega)
 have J4:=J3.trans k4
 have A4:=bW x ((J4.get _ fb).trans gb)
 refine ⟨h4,aG is100 W.g4 rfl ((t100_eq _ _ _ _).trans ?_),?_,K1.trans J4⟩
 ·unfold t100
  simp -implicitDefEqProofs only [b1, A1.l3, A2.l5, A3.l6, bX, fL, e2, e3, e4, ah, aq, ao, Nat.zero_add]
 ·unfold bReq
  simpa only [List.append_assoc] using W4
def sObjB (m:aZ):List Nat:=m.obj
theorem is104:bB Tryz.prog 104 Tryz.f104:=⟨by kernel_rfl,by kernel_rfl,by kernel_rfl,by kernel_rfl⟩
set_option maxRecDepth 100000 in
theorem r104 {h:ak} {N w lim:Nat} {l:List Nat} {s:cP} {m:aZ} (W:IsW h N w lim l) (x:ej h s m) (F:FrS h w s) (hfit:l.length+(sObjB m).length≤lim) : ∃ h',CW 104 [ptr w 0,mv m s] h=some (.tuple #[],h')∧IsW h' N w lim (l++sObjB m)∧WS w h h':=by
 obtain ⟨h1,b1,o1,x1,A1,n1,-⟩:=dg x
 have W1:=W.bm o1
 have k1:=WS.ff W.lt o1
 have K1:=k1
 have fb:Fr h1 w h.next:=W.fr o1 (Nat.le_refl _) (by omega)
 have gb:=A1.g
 have F1:=F.ws K1
 have J1:WS w h1 h1:=WS.refl _ _
 obtain ⟨h2,e2,W2,k2⟩:=r52 W1 (n:=m.obj.length) (c:=32) (bK (off:=44) (s:=none) ((J1.get _ fb).trans gb) (A:=m.d.front s++(bI m.root ++ [s.d,.bool m.b7])) (C:=m.d.dv s ++ [.int .i64 m.cg,s.f,.int .i64 m.code]) (by unfold bD.cells;simp only [List.append_assoc];rfl) (by rw [List.length_append,List.length_append,b6 x.wf.root];rfl) x.wf.obj.2) (fun y hy _=>by cases hy;exact J1.fr _ fb) (by unfold sObjB at hfit;omega)
 have J2:=J1.trans k2
 have A2:=bW x ((J2.get _ fb).trans gb)
 have e2:CW 52 [ptr w 0,.slice (some ⟨h.next,44,none⟩) 32 32] h1=some (.tuple #[],h2):=by
  rw [x.wf.obj.1] at e2
  exact e2
 refine ⟨h2,aG is104 W.g4 rfl ((t104_eq _ _ _ _).trans ?_),?_,K1.trans J2⟩
 ·unfold t104
  simp -implicitDefEqProofs only [b1, arr32, e2, ah, aq, ao, Nat.zero_add]
 ·unfold sObjB
  simpa only [List.append_assoc] using W2
theorem is120:bB Tryz.prog 120 Tryz.f120:=⟨by kernel_rfl,by kernel_rfl,by kernel_rfl,by kernel_rfl⟩
set_option maxRecDepth 100000 in
theorem r120 {h:ak} {N w lim:Nat} {l:List Nat} {s:cP} {m:aZ} (W:IsW h N w lim l) (x:ej h s m) (F:FrS h w s) (hfit:l.length+(bStored m).length≤lim) : ∃ h',CW 120 [ptr w 0,mv m s] h=some (.tuple #[],h')∧IsW h' N w lim (l++bStored m)∧WS w h h':=by
 obtain ⟨h1,b1,o1,x1,A1,n1,-⟩:=dg x
 have W1:=W.bm o1
 have k1:=WS.ff W.lt o1
 have K1:=k1
 have fb:Fr h1 w h.next:=W.fr o1 (Nat.le_refl _) (by omega)
 have gb:=A1.g
 have F1:=F.ws K1
 have J1:WS w h1 h1:=WS.refl _ _
 obtain ⟨h2,e2,W2,k2⟩:=r52 W1 (n:=m.obj.length) (c:=32) (bK (off:=44) (s:=none) ((J1.get _ fb).trans gb) (A:=m.d.front s++(bI m.root ++ [s.d,.bool m.b7])) (C:=m.d.dv s ++ [.int .i64 m.cg,s.f,.int .i64 m.code]) (by unfold bD.cells;simp only [List.append_assoc];rfl) (by rw [List.length_append,List.length_append,b6 x.wf.root];rfl) x.wf.obj.2) (fun y hy _=>by cases hy;exact J1.fr _ fb) (by unfold bStored at hfit;simp only [List.length_append, aF] at hfit ⊢;omega)
 have J2:=J1.trans k2
 have A2:=bW x ((J2.get _ fb).trans gb)
 obtain ⟨h3,e3,W3,k3⟩:=r49 W2 (v:=i16 m.code) (by unfold bStored at hfit;simp only [List.length_append, aF] at hfit ⊢;omega) (i16_lt _)
 have J3:=J2.trans k3
 have A3:=bW x ((J3.get _ fb).trans gb)
 have e2:CW 52 [ptr w 0,.slice (some ⟨h.next,44,none⟩) 32 32] h1=some (.tuple #[],h2):=by
  rw [x.wf.obj.1] at e2
  exact e2
 refine ⟨h3,aG is120 W.g4 rfl ((t120_eq _ _ _ _).trans ?_),?_,K1.trans J3⟩
 ·unfold t120
  simp -implicitDefEqProofs only [b1, A2.aU, bX, wrap_i16, arr32, e2, e3, ah, aq, ao, Nat.zero_add]
 ·unfold bStored
  simpa only [List.append_assoc] using W3
theorem is113:bB Tryz.prog 113 Tryz.f113:=⟨by kernel_rfl,by kernel_rfl,by kernel_rfl,by kernel_rfl⟩
set_option maxRecDepth 100000 in
theorem r113 {h:ak} {N w lim:Nat} {l:List Nat} {s:cP} {m:aZ} (W:IsW h N w lim l) (x:ej h s m) (F:FrS h w s) (hlo:m.low.length≤34) (hhi:m.high.length≤34) (hfit:l.length+(bSum m).length≤lim) : ∃ h',CW 113 [ptr w 0,mv m s] h=some (.tuple #[],h')∧IsW h' N w lim (l++bSum m)∧WS w h h':=by
 obtain ⟨h1,b1,o1,x1,A1,n1,-⟩:=dg x
 have W1:=W.bm o1
 have k1:=WS.ff W.lt o1
 have K1:=k1
 have fb:Fr h1 w h.next:=W.fr o1 (Nat.le_refl _) (by omega)
 have gb:=A1.g
 have F1:=F.ws K1
 have J1:WS w h1 h1:=WS.refl _ _
 obtain ⟨ab,cb,vb,sb,tb⟩:=x.sl.b.bytes x.wf.low
 obtain ⟨ac,cc,vc,sc,tc⟩:=x.sl.c.bytes x.wf.high
 obtain ⟨h2,e2,W2,k2⟩:=r133 W1 (c:=cb) ((k1.trans J1).bytes sb (fun y hy hn=>F.b _ (tb y hy hn))) (fun y hy hn=>(k1.trans J1).fr _ (F.b _ (tb y hy hn))) (by unfold bSum at hfit;simp only [List.length_append, aF, bj] at hfit ⊢;omega) (by omega)
 have J2:=J1.trans k2
 have A2:=bW x ((J2.get _ fb).trans gb)
 obtain ⟨h3,e3,W3,k3⟩:=r133 W2 (c:=cc) ((k1.trans J2).bytes sc (fun y hy hn=>F.c _ (tc y hy hn))) (fun y hy hn=>(k1.trans J2).fr _ (F.c _ (tc y hy hn))) (by unfold bSum at hfit;simp only [List.length_append, aF, bj] at hfit ⊢;omega) (by omega)
 have J3:=J2.trans k3
 have A3:=bW x ((J3.get _ fb).trans gb)
 obtain ⟨h4,e4,W4,k4⟩:=r51 W3 (v:=i32 m.count) (by unfold bSum at hfit;simp only [List.length_append, aF, bj] at hfit ⊢;omega) (i32_lt _)
 have J4:=J3.trans k4
 have A4:=bW x ((J4.get _ fb).trans gb)
 obtain ⟨h5,e5,W5,k5⟩:=r52 W4 (n:=m.root.length) (c:=32) (bK (off:=10) (s:=none) ((J4.get _ fb).trans gb) (A:=m.d.front s) rfl rfl x.wf.root.2) (fun y hy _=>by cases hy;exact J4.fr _ fb) (by unfold bSum at hfit;simp only [List.length_append, aF, bj] at hfit ⊢;omega)
 have J5:=J4.trans k5
 have A5:=bW x ((J5.get _ fb).trans gb)
 rw [←vb] at e2
 rw [←vc] at e3
 have e5:CW 52 [ptr w 0,.slice (some ⟨h.next,10,none⟩) 32 32] h4=some (.tuple #[],h5):=by
  rw [x.wf.root.1] at e5
  exact e5
 refine ⟨h5,aG is113 W.g4 rfl ((t113_eq _ _ _ _).trans ?_),?_,K1.trans J5⟩
 ·unfold t113
  simp -implicitDefEqProofs only [b1, A1.l7, A2.l8, A3.l9, bX, wrap_i32, arr32, e2, e3, e4, e5, ah, aq, ao, Nat.zero_add]
 ·unfold bSum text
  simpa only [List.append_assoc] using W5
theorem is108:bB Tryz.prog 108 Tryz.f108:=⟨by kernel_rfl,by kernel_rfl,by kernel_rfl,by kernel_rfl⟩
set_option maxRecDepth 100000 in
theorem r108 {h:ak} {N w lim:Nat} {l:List Nat} {s:cP} {m:aZ} (W:IsW h N w lim l) (x:ej h s m) (F:FrS h w s) (hm:dp m=false) (hd:m.data.length≤8192) (hfit:l.length+(bPiece m).length≤lim) : ∃ h',CW 108 [ptr w 0,mv m s] h=some (.tuple #[],h')∧IsW h' N w lim (l++bPiece m)∧WS w h h':=by
 obtain ⟨h1,b1,o1,x1,A1,n1,-⟩:=dg x
 have W1:=W.bm o1
 have k1:=WS.ff W.lt o1
 have K1:=k1
 have fb:Fr h1 w h.next:=W.fr o1 (Nat.le_refl _) (by omega)
 have gb:=A1.g
 have F1:=F.ws K1
 have J1:WS w h1 h1:=WS.refl _ _
 have hG1:4≤h1.n0:=W1.g4
 obtain ⟨am,cm,h2,em,sm,om,fm⟩:=r132 hG1 x1 hm
 have W2:=W1.bm om
 have J2:WS w h1 h2:=WS.ff W1.lt om
 have A2:=bW x ((J2.get _ fb).trans gb)
 have Fm : ∀ y,am=some y→0<(dS m).length→Fr h2 w y.block:=fun y hy hn=>W1.fr om (fm y hy) (by
  obtain ⟨b,off,s',k,e,g,_⟩:=(ba sm).2.2 hn
  rw [hy] at e
  cases e
  exact h2.bT g)
 obtain ⟨af,cf,vf,sf_,tf⟩:=x.sl.f.bytes x.wf.data
 have hml:=encMan_len x.wf
 obtain ⟨h3,e3,W3,k3⟩:=r52 W2 (n:=m.obj.length) (c:=32) (bK (off:=44) (s:=none) ((J2.get _ fb).trans gb) (A:=m.d.front s++(bI m.root ++ [s.d,.bool m.b7])) (C:=m.d.dv s ++ [.int .i64 m.cg,s.f,.int .i64 m.code]) (by unfold bD.cells;simp only [List.append_assoc];rfl) (by rw [List.length_append,List.length_append,b6 x.wf.root];rfl) x.wf.obj.2) (fun y hy _=>by cases hy;exact J2.fr _ fb) (by unfold bPiece at hfit;simp only [List.length_append, aF, bj, hml] at hfit ⊢;omega)
 have J3:=J2.trans k3
 have A3:=bW x ((J3.get _ fb).trans gb)
 obtain ⟨h4,e4,W4,k4⟩:=r133 W3 (c:=cm) (k3.bytes sm Fm) (fun y hy hn=>k3.fr _ (Fm y hy hn)) (by unfold bPiece at hfit;simp only [List.length_append, aF, bj, hml] at hfit ⊢;omega) (by rw [hml];have:=man_fine hm;omega)
 have J4:=J3.trans k4
 have A4:=bW x ((J4.get _ fb).trans gb)
 obtain ⟨h5,e5,W5,k5⟩:=r49 W4 (v:=i16 m.cg) (by unfold bPiece at hfit;simp only [List.length_append, aF, bj, hml] at hfit ⊢;omega) (i16_lt _)
 have J5:=J4.trans k5
 have A5:=bW x ((J5.get _ fb).trans gb)
 obtain ⟨h6,e6,W6,k6⟩:=r133 W5 (c:=cf) ((k1.trans J5).bytes sf_ (fun y hy hn=>F.f _ (tf y hy hn))) (fun y hy hn=>(k1.trans J5).fr _ (F.f _ (tf y hy hn))) (by unfold bPiece at hfit;simp only [List.length_append, aF, bj, hml] at hfit ⊢;omega) (by omega)
 have J6:=J5.trans k6
 have A6:=bW x ((J6.get _ fb).trans gb)
 rw [←vf] at e6
 have e3:CW 52 [ptr w 0,.slice (some ⟨h.next,44,none⟩) 32 32] h2=some (.tuple #[],h3):=by
  rw [x.wf.obj.1] at e3
  exact e3
 refine ⟨h6,aG is108 W.g4 rfl ((t108_eq _ _ _ _).trans ?_),?_,K1.trans J6⟩
 ·unfold t108
  simp -implicitDefEqProofs only [b1, A1.bR, em, bM, bN, A4.aT, A5.aR, bX, wrap_i16, arr32, e3, e4, e5, e6, ah, aq, ao, Nat.zero_add, Nat.reduceAdd]
 ·unfold bPiece text
  simpa only [List.append_assoc] using W6
theorem is116:bB Tryz.prog 116 Tryz.f116:=⟨by kernel_rfl,by kernel_rfl,by kernel_rfl,by kernel_rfl⟩
theorem results116:Tryz.f116.results.toList = []:=by kernel_rfl
def itInv (h0:ak) (N w lim:Nat) (L:List Nat) (v:Value) (t:List cx) (k:Nat) (y:Nat→Value) (g:ak):Prop:=
 ∃ i,i+k=t.length∧y 0=ptr w 0∧y 29=v∧y 30=aN t.length∧y 31=aN i∧WS w h0 g∧IsW g N w lim (L++(t.take i).flatMap dL)
def itFin (h0:ak) (N w lim:Nat) (L:List Nat) (t:List cx) (ex:Ex) (_:Nat→Value) (g:ak):Prop:=
 ex = .exit 0∧WS w h0 g∧IsW g N w lim (L++t.flatMap dL)
theorem itRound {h0:ak} {N w lim:Nat} {L:List Nat} {v:Value} {t:List cx} (x:dn h0 recK v t.length (t.flatMap recC)) (F:FrV h0 w v) (hw : ∀ x∈t,x.Wf) (hv : ∀ x∈t,eW x=true) (hl:t.length≤255) (hfit:L.length+t.length*53≤lim) :
  ∀ k y g,itInv h0 N w lim L v t k y g→dw 44 (itInv h0 N w lim L v t) (itFin h0 N w lim L t) k (eR CW y g):=by
 rintro k y g ⟨i,hik,y0,y29,y30,y31,K,W⟩
 unfold eR
 by_cases hi:i<t.length
 ·obtain ⟨b,q,kb,_,a1,_,_,_,a2,_⟩:=(x.ws F K).at hi
  obtain ⟨m,hm⟩ : ∃ m,t[i]? = some m:=⟨t[i],List.getElem?_eq_getElem hi⟩
  have hmem:=List.mem_of_getElem? hm
  have wm:=hw m hmem
  have a1:cD 39 v (aN i)=some (ptr b (q+i*39)):=a1
  have a2:bP 39 (ptr b (q+i*39)) g=some (.agg (el 39 (t.flatMap recC) i).toArray,g):=a2
  rw [el_flat150 hw hm] at a2
  have hlen:((t.take i).flatMap dL).length=i*53:=by
   rw [eK (fun a ha=>hw a (List.mem_of_mem_take ha)),List.length_take,Nat.min_eq_left (by omega)]
  have hi9:i*53+53≤t.length*53:=mul_le hi
  obtain ⟨g1,z1,o1,q1,n1⟩:=fresh [(.int .u8 0),(.int .u8 0),(.int .u8 0),(.int .u8 0),(.int .u8 0),(.int .u8 0),(.int .u8 0),(.int .u8 0),(.int .u8 0),(.int .u8 0),(.int .u8 0),(.int .u8 0),(.int .u8 0),(.int .u8 0),(.int .u8 0),(.int .u8 0),(.int .u8 0),(.int .u8 0),(.int .u8 0),(.int .u8 0),(.int .u8 0),(.int .u8 0),(.int .u8 0),(.int .u8 0),(.int .u8 0),(.int .u8 0),(.int .u8 0),(.int .u8 0),(.int .u8 0),(.int .u8 0),(.int .u8 0),(.int .u8 0),(.int .u8 0),(.int .i64 0),(.int .u64 0),(.int .u64 0),(.bool false),(.int .i64 0),(.int .i64 0)] g
  have p1:g1.n0≤g.next:=by rw [o1.n0];exact g.bg
  obtain ⟨g2,t2,k2,q2,_,n2⟩:=dr (n:=39) (k':=recC m) q1 p1 rfl (eg wm).1 (eg wm).2.2
  have o2:Old g g2:=Old.of_new o1 k2 (Nat.le_refl _)
  have W2:=W.bm o2
  have l0:bP 39 (ptr g.next 0) g2=some (.agg (recC m).toArray,g2):=ldN_all q2 (eg wm).1 (eg wm).2.1
  obtain ⟨a,c,g3,e3,sb,o3,f3⟩:=r139 W2.g4 wm (hv m hmem)
  have W3:=W2.bm o3
  have Fa : ∀ y,a=some y→0<53→Fr g3 w y.block:=fun y hy hn=>W2.fr o3 (f3 y hy) (by
   obtain ⟨b,off,s',k,e,g,_⟩:=(ba sb).2.2 hn
   rw [hy] at e
   cases e
   exact g3.bT g)
  obtain ⟨g4,e4,W4,k4⟩:=r52 W3 (c:=c) sb Fa (by rw [List.length_append,hlen];omega)
  simp -implicitDefEqProofs only [y31, y30, dI, decide_eq_true hi, y29, a1, a2, z1, t2, l0, e3, bM, bN, y0, e4, eT (show i+1≤9223372036854775807 by omega), ah, aq]
  refine dw.next (k-1) (by omega) ⟨i+1,by omega,y0,y29,y30,rfl,((K.trans (WS.ff W.lt o2)).trans (WS.ff W2.lt o3)).trans k4,?_⟩
  rw [flat_snoc hm,←List.append_assoc]
  exact W4
 ·simp -implicitDefEqProofs only [y31,y30,dI,decide_eq_false hi,ah,aq]
  refine dw.out 0 ⟨rfl,K,?_⟩
  rw [List.take_of_length_le (by omega)] at W
  exact W
set_option maxRecDepth 100000 in
theorem r116 {h:ak} {N w lim:Nat} {l:List Nat} {s:cP} {m:aZ} (W:IsW h N w lim l) (x:ej h s m) (F:FrS h w s) (hlo:m.low.length≤34) (hhi:m.high.length≤34) (hr:m.bC.length≤64) (hv : ∀ x∈m.bC,eW x=true) (hfit:l.length+(eN m).length≤lim) : ∃ h',CW 116 [ptr w 0,mv m s] h=some (.tuple #[],h')∧IsW h' N w lim (l++eN m)∧WS w h h':=by
 obtain ⟨h1,b1,o1,x1,A1,n1,-⟩:=dg x
 have W1:=W.bm o1
 have k1:=WS.ff W.lt o1
 have fb:Fr h1 w h.next:=W.fr o1 (Nat.le_refl _) (by omega)
 have gb:=A1.g
 have J1:WS w h1 h1:=WS.refl _ _
 obtain ⟨ab,cb,vb,sb,tb⟩:=x.sl.b.bytes x.wf.low
 obtain ⟨ac,cc,vc,sc,tc⟩:=x.sl.c.bytes x.wf.high
 obtain ⟨h2,e2,W2,k2⟩:=r133 W1 (c:=cb) ((k1.trans J1).bytes sb (fun y hy hn=>F.b _ (tb y hy hn))) (fun y hy hn=>(k1.trans J1).fr _ (F.b _ (tb y hy hn))) (by unfold eN at hfit;simp only [List.length_append, aF, bj, eK x.wf.bC] at hfit ⊢;omega) (by omega)
 have J2:=J1.trans k2
 have A2:=bW x ((J2.get _ fb).trans gb)
 obtain ⟨h3,e3,W3,k3⟩:=r133 W2 (c:=cc) ((k1.trans J2).bytes sc (fun y hy hn=>F.c _ (tc y hy hn))) (fun y hy hn=>(k1.trans J2).fr _ (F.c _ (tc y hy hn))) (by unfold eN at hfit;simp only [List.length_append, aF, bj, eK x.wf.bC] at hfit ⊢;omega) (by omega)
 have J3:=J2.trans k3
 have A3:=bW x ((J3.get _ fb).trans gb)
 obtain ⟨h4,e4,W4,k4⟩:=r50 W3 (v:=bit m.b7) (by unfold eN at hfit;simp only [List.length_append, aF, bj, eK x.wf.bC] at hfit ⊢;omega) (by unfold bit;split<;>decide)
 have J4:=J3.trans k4
 have A4:=bW x ((J4.get _ fb).trans gb)
 obtain ⟨h5,e5,W5,k5⟩:=r49 W4 (v:=m.bC.length) (by unfold eN at hfit;simp only [List.length_append, aF, bj, eK x.wf.bC] at hfit ⊢;omega) (by omega)
 have J5:=J4.trans k5
 have A5:=bW x ((J5.get _ fb).trans gb)
 rw [←vb] at e2
 rw [←vc] at e3
 have hw16:IntKind.wrap .u16 ((m.bC.length:Nat):Int)=(m.bC.length:Int):=wrap_u16 (by omega) (by omega)
 have K5:=k1.trans J5
 have fin : ∀ y,y 0=ptr w 0→y 29=s.d→y 30=aN m.bC.length→y 31=aN 0 → ∃ h',ei (iter (aL Tryz.prog CW (partOf Tryz.f116 [1,1,1,1,1,1,0,0])) rounds (aX 44 y) h5) (ax Tryz.prog Tryz.f116.results.toList) (b116_7 CW)=some (.tuple #[],h')∧IsW h' N w lim (l++eN m)∧WS w h h':=fun y y0 y29 y30 y31=>by
  refine cy (Q:=fun o:Out => ∃ h',o=some (Value.tuple #[],h')∧IsW h' N w lim (l++eN m)∧WS w h h') (cn (t116l116_1111110_eq CW) (itRound (N:=N) (lim:=lim) (L:=l++cG 2 m.low.length++m.low++cG 2 m.high.length++m.high++cG 1 (bit m.b7)++cG 2 m.bC.length) (x.sl.d.ws F.d K5) (F.d.ws K5) x.wf.bC hv (by omega) (by unfold eN at hfit;simp only [List.length_append, aF, bj, eK x.wf.bC] at hfit ⊢;omega)) m.bC.length (by have:rounds=18446744073709551616:=rfl;omega)
   ⟨0,Nat.zero_add _,y0,y29,y30,y31,WS.refl _ _,by simpa using W5⟩) ?_
  rintro ex z g ⟨rfl,K,W'⟩
  rw [bG]
  unfold b116_7
  rw [if_pos rfl,results116]
  refine ⟨g,rfl,?_,K5.trans K⟩
  unfold eN text
  simpa only [List.append_assoc] using W'
 have key : ∃ h',t116 CW (ptr w 0) (mv m s) h=some (.tuple #[],h')∧IsW h' N w lim (l++eN m)∧WS w h h':=by
  have n4:=x.len.2.2.2.1
  cases hq:m.b7 with
  |true=>
   have bU:aK (ptr h.next 43) h3=some (.bool true,h3):=by rw [A3.bU,hq]
   have e4:CW 50 [ptr w 0,.int .u8 1] h3=some (.tuple #[],h4):=by
    rw [hq] at e4
    exact e4
   unfold t116
   simp -implicitDefEqProofs only [b1, A1.l7, e2, A2.l8, e3, bU, e4, A4.bF, n4, aN, bX, hw16, e5, A5.bF, ah, aq, ao, Nat.zero_add]
   exact fin _ rfl rfl rfl rfl
  |false=>
   have bU:aK (ptr h.next 43) h3=some (.bool false,h3):=by rw [A3.bU,hq]
   have e4:CW 50 [ptr w 0,.int .u8 0] h3=some (.tuple #[],h4):=by
    rw [hq] at e4
    exact e4
   unfold t116
   simp -implicitDefEqProofs only [b1, A1.l7, e2, A2.l8, e3, bU, e4, A4.bF, n4, aN, bX, hw16, e5, A5.bF, ah, aq, ao, Nat.zero_add]
   exact fin _ rfl rfl rfl rfl
 obtain ⟨h',e,W',K⟩:=key
 exact ⟨h',aG is116 W.g4 rfl ((t116_eq _ _ _ _).trans e),W',K⟩
end Go.Proofs.YtjghlcdidopcpaaGreatDoor

namespace Go.Proofs.YtjghlcdidopcpaaGreatDoor
open Go Go.Abs
attribute [local congr] aP
def dC (k:Nat) (m:aZ):List Nat:=match k with
 | 1|2=>bPing m
 | 3=>bReq m
 | 4=>bSum m
 | 5=>eN m
 | 8|10=>bPiece m
 | 11=>bStored m
 |_=>sObjB m
def eH (m:aZ):List Nat:=cG 2 21335++(cG 1 1++(cG 1 m.kind++(cG 1 (i8 m.from_)++(cG 1 (i8 m.eu)++(cG 4 (dC m.kind m).length++dC m.kind m)))))
def enc (m:aZ):List Nat:=eH m++cG 4 (crcN (eH m))
theorem crcN_lt {l:List Nat} (hb : ∀ x∈l,x<256):crcN l<4294967296:=by
 have h:=crcFold_lt l 4294967295 (by omega) hb
 unfold crcN
 exact Nat.xor_lt_two_pow (n:=32) (by decide) h
theorem tab_fine {m:aZ} (h:tabB m=true):m.table.length≤16:=by
 unfold tabB tableB at h
 simp only [Bool.and_eq_true,decide_eq_true_eq] at h
 omega
theorem eI {m:aZ} (h:rangeB m=true):m.low.length≤34∧m.high.length≤34∧m.bC.length≤64 ∧ ∀ x∈m.bC,eW x=true:=by
 unfold rangeB at h
 simp only [Bool.and_eq_true,decide_eq_true_eq,Bool.not_eq_true'] at h
 obtain ⟨⟨⟨⟨⟨h1,h2⟩,_⟩,_⟩,h5⟩,h6⟩:=h
 refine ⟨by omega,by omega,by omega,fun x hx => ?_⟩
 have:=List.any_eq_false.1 h6 x hx
 simpa using this
theorem pce_fine {m:aZ} (h:pceB m=true):dp m=false∧m.data.length≤8192:=by
 unfold pceB at h
 simp only [Bool.and_eq_true,decide_eq_true_eq,Bool.not_eq_true'] at h
 exact ⟨h.1.1.1,by omega⟩
theorem body_len {k:Nat} {m:aZ} (hk:cq k=true) (hc:chkB k m=true) (w:m.Wf):(dC k m).length≤20000:=by
 have L1:tabB m=true→(bPing m).length≤20000∧(bReq m).length≤20000:=fun h=>by
  have:=tab_fine h
  unfold bPing bReq
  simp only [List.length_append,aF,bo]
  omega
 have L2:rangeB m=true→(bSum m).length≤20000∧(eN m).length≤20000:=fun h=>by
  obtain ⟨h1,h2,h3,_⟩:=eI h
  unfold bSum eN
  simp only [List.length_append,aF,bj,eK w.bC,w.root.1]
  omega
 have L3:pceB m=true→(bPiece m).length≤20000:=fun h=>by
  obtain ⟨h1,h2⟩:=pce_fine h
  have:=man_fine h1
  unfold bPiece
  simp only [List.length_append,aF,bj,encMan_len w,w.obj.1]
  omega
 have L4:(sObjB m).length≤20000:=by unfold sObjB;rw [w.obj.1];decide
 have L5:(bStored m).length≤20000:=by unfold bStored;simp only [List.length_append,aF,w.obj.1];decide
 rcases kinds hk with rfl|rfl|rfl|rfl|rfl|rfl|rfl|rfl|rfl|rfl|rfl|rfl|rfl
 ·exact (L1 hc).1
 ·exact (L1 hc).1
 ·exact (L1 hc).2
 ·exact (L2 hc).1
 ·exact (L2 hc).2
 ·exact L4
 ·exact L4
 ·exact L3 hc
 ·exact L4
 ·exact L3 hc
 ·exact L5
 ·exact L4
 ·exact L4
theorem write_call {h:ak} {N w lim:Nat} {l:List Nat} {s:cP} {m:aZ} {k:Nat} (hk:cq k=true) (hc:chkB k m=true) (W:IsW h N w lim l) (x:ej h s m) (F:FrS h w s) (hfit:l.length+(dC k m).length≤lim) :
  ∃ h',callA Tryz.prog CW (fnV (fmN k).2.2.2.1) [ptr w 0,mv m s] h=some (.tuple #[],h')∧IsW h' N w lim (l++dC k m)∧WS w h h':=by
 rcases kinds hk with rfl|rfl|rfl|rfl|rfl|rfl|rfl|rfl|rfl|rfl|rfl|rfl|rfl
 ·exact (bk CW 97 _ h).symm▸r97 W x F (by have:=tab_fine hc;omega) hfit
 ·exact (bk CW 97 _ h).symm▸r97 W x F (by have:=tab_fine hc;omega) hfit
 ·exact (bk CW 100 _ h).symm▸r100 W x F (by have:=tab_fine hc;omega) hfit
 ·exact (bk CW 113 _ h).symm▸r113 W x F (eI hc).1 (eI hc).2.1 hfit
 ·exact (bk CW 116 _ h).symm▸r116 W x F (eI hc).1 (eI hc).2.1 (eI hc).2.2.1 (eI hc).2.2.2 hfit
 ·exact (bk CW 104 _ h).symm▸r104 W x F hfit
 ·exact (bk CW 104 _ h).symm▸r104 W x F hfit
 ·exact (bk CW 108 _ h).symm▸r108 W x F (pce_fine hc).1 (pce_fine hc).2 hfit
 ·exact (bk CW 104 _ h).symm▸r104 W x F hfit
 ·exact (bk CW 108 _ h).symm▸r108 W x F (pce_fine hc).1 (pce_fine hc).2 hfit
 ·exact (bk CW 120 _ h).symm▸r120 W x F hfit
 ·exact (bk CW 104 _ h).symm▸r104 W x F hfit
 ·exact (bk CW 104 _ h).symm▸r104 W x F hfit
theorem is21:bB Tryz.prog 21 Tryz.f21:=⟨by kernel_rfl,by kernel_rfl,by kernel_rfl,by kernel_rfl⟩
theorem valid_parts {m:aZ} (v:b9 m=true):cq m.kind=true∧chkB m.kind m=true:=by
 unfold b9 at v
 simp only [Bool.and_eq_true] at v
 exact ⟨v.1.1.1.1.1,v.1.2⟩
section
variable {h:ak} {s:cP} {m:aZ} (hG:4≤h.n0) (x:ej h s m) (sm:m.n.Small)
include hG x sm
theorem r21_bad (v:b9 m=false) : ∃ h',CW 21 [mv m s] h=some (.tuple #[.slice none 0 0,.int .i64 2],h')∧Old h h':=by
 obtain ⟨h1,b1,o1,x1,A1,n1,-⟩:=dg x
 obtain ⟨h2,e2,o2⟩:=r19 (h:=h1) (by rw [o1.n0];exact hG) x1 sm
 rw [v] at e2
 have z35:bin Tryz.prog .neq 35 (.int .i64 2) (.int .i64 0)=some (.bool true):=by rw [aA];rfl
 refine ⟨h2,aG is21 hG rfl ((t21_eq _ _ _).trans ?_),o1.trans o2⟩
 unfold t21
 simp -implicitDefEqProofs only [b1,A1.all,e2,Bool.false_eq_true,if_false,z35,ah,aq]
set_option maxRecDepth 100000 in
theorem r21 (v:b9 m=true) : ∃ a c h',CW 21 [mv m s] h=some (.tuple #[.slice a (enc m).length c,.int .i64 0],h')∧aJ a (enc m).length h'=some (enc m)∧goodS a (enc m).length c=true∧Old h h'∧(∀ y,a=some y→h.next≤y.block):=by
 obtain ⟨vk,vc⟩:=valid_parts v
 have hbl:=body_len vk vc x.wf
 obtain ⟨h1,b1,o1,x1,A1,n1,-⟩:=dg x
 have hG1:4≤h1.n0:=by rw [o1.n0];exact hG
 obtain ⟨h2,e2,o2⟩:=r19 hG1 x1 sm
 rw [v] at e2
 have z35:bin Tryz.prog .neq 35 (.int .i64 0) (.int .i64 0)=some (.bool false):=by rw [aA];rfl
 have O2:=o1.trans o2
 have A2:=bW x (Old.get o2 A1.g)
 obtain ⟨h3,e3,o3⟩:=r35 (h:=h2) (by rw [O2.n0];exact hG) x.wf.kind
 have O3:=O2.trans o3
 obtain ⟨h4,z4,o4,g4,n4⟩:=fresh [(.string ⟨#[]⟩),.nilFunc,.nilFunc,.nilFunc,.nilFunc] h3
 have c:=fmC_ok m.kind
 have p4:h4.n0≤h3.next:=by rw [o4.n0];exact h3.bg
 obtain ⟨h5,s5,k5,g5,-,n5⟩:=dr (n:=5) (k':=fmC m.kind) g4 p4 rfl c.2.2 c.2.1
 have o5:Old h3 h5:=Old.of_new o4 k5 (Nat.le_refl _)
 have O5:=O3.trans o5
 obtain ⟨h6,e6,W6,o6,F6⟩:=r47 h5 (by rw [O5.n0];exact hG) (lim:=20000) (by decide)
 have e6:CW 47 [.int .i64 20000] h5=_:=e6
 have O6:=O5.trans o6
 have o16:=((o2.trans o3).trans o5).trans o6
 have A6:=bW x (Old.get o16 A1.g)
 have f6:aK (ptr h3.next 3) h6=some (fnV (fmN m.kind).2.2.2.1,h6):=bf (Old.get o6 g5) rfl (by unfold fnV;split<;>rfl)
 have lt5:h.next<h5.next:=by
  have:=((o2.trans o3).trans o5).next
  omega
 have FS6:FrS h6 h5.next s:=by
  have key : ∀ b,b<h.next→Fr h6 h5.next b:=fun b hb=>F6 b (by omega)
  exact ⟨fun b hb=>key b (x.sl.a.lt hb),fun b hb=>key b (x.sl.b.lt hb),fun b hb=>key b (x.sl.c.lt hb),fun b hb=>key b (x.sl.d.lt hb),fun b hb=>key b (x.sl.e.lt hb),fun b hb=>key b (x.sl.f.lt hb)⟩
 obtain ⟨h7,e7,W7,k7⟩:=write_call vk vc W6 (x.bm O6) FS6 (by simpa using hbl)
 rw [List.nil_append] at W7
 obtain ⟨a8,c8,h8,e8,s8,gs8,o8,f8⟩:=r48 W7 (by omega)
 have O68:Old h5 h8:=⟨by rw [o8.n0,k7.n0,o6.n0],Nat.le_trans o6.next (Nat.le_trans k7.next o8.next),fun d hd _=>(Kept.get o8 d (Nat.lt_of_lt_of_le (F6 d hd).1 k7.next) (fun h=>h)).trans ((k7.get d (F6 d hd)).trans (Kept.get o6 d hd (fun h=>h)))⟩
 have O8:=O5.trans O68
 have g8:h8.get h.next=some (m.d.cells s):=Old.get O68 (Old.get ((o2.trans o3).trans o5) A1.g)
 have hl8:bE (.slice a8 (dC m.kind m).length c8)=some (aN (dC m.kind m).length):=rfl
 have had:bin Tryz.prog .add 3 (aN (dC m.kind m).length) (.int .i64 14)=some (aN ((dC m.kind m).length+14)):=add3 (b:=14) (by omega)
 obtain ⟨h9,e9,W9,o9,F9⟩:=r47 h8 (by rw [O8.n0];exact hG) (lim:=(dC m.kind m).length+14) (by omega)
 have fb:Fr h9 h8.next h.next:=F9 _ (by have:=O68.next;omega)
 have gb:h9.get h.next=some (m.d.cells s):=Old.get o9 g8
 have K9:WS h8.next h9 h9:=WS.refl _ _
 have Fa : ∀ y,a8=some y→0<(dC m.kind m).length→Fr h9 h8.next y.block:=fun y hy hn=>F9 _ (by
  obtain ⟨b,off,s',k,e,g,_⟩:=(ba s8).2.2 hn
  rw [hy] at e
  cases e
  exact h8.bT g)
 have s9:=Old.bytes o9 s8
 obtain ⟨h10,e10,W10,k10⟩:=r49 W9 (v:=21335) (by simp only [List.length_nil];omega) (by decide)
 have K10:=K9.trans k10
 have A10:=bW x ((K10.get _ fb).trans gb)
 obtain ⟨h11,e11,W11,k11⟩:=r50 W10 (v:=1) (by simp only [List.length_append,aF,List.length_nil];omega) (by decide)
 have K11:=K10.trans k11
 have A11:=bW x ((K11.get _ fb).trans gb)
 obtain ⟨h12,e12,W12,k12⟩:=r50 W11 (v:=m.kind) (by simp only [List.length_append,aF,List.length_nil];omega) x.wf.kind
 have K12:=K11.trans k12
 have A12:=bW x ((K12.get _ fb).trans gb)
 obtain ⟨h13,e13,W13,k13⟩:=r50 W12 (v:=i8 m.from_) (by simp only [List.length_append,aF,List.length_nil];omega) (cX _)
 have K13:=K12.trans k13
 have A13:=bW x ((K13.get _ fb).trans gb)
 obtain ⟨h14,e14,W14,k14⟩:=r50 W13 (v:=i8 m.eu) (by simp only [List.length_append,aF,List.length_nil];omega) (cX _)
 have K14:=K13.trans k14
 have A14:=bW x ((K14.get _ fb).trans gb)
 obtain ⟨h15,e15,W15,k15⟩:=r51 W14 (v:=(dC m.kind m).length) (by simp only [List.length_append,aF,List.length_nil];omega) (by omega)
 have K15:=K14.trans k15
 have A15:=bW x ((K15.get _ fb).trans gb)
 obtain ⟨h16,e16,W16,k16⟩:=r52 W15 (c:=c8) (K15.bytes s9 Fa) (fun y hy hn=>K15.fr _ (Fa y hy hn)) (by simp only [List.length_append,aF,List.length_nil];omega)
 have K16:=K15.trans k16
 have A16:=bW x ((K16.get _ fb).trans gb)
 have hE : []++cG 2 21335++cG 1 1++cG 1 m.kind++cG 1 (i8 m.from_)++cG 1 (i8 m.eu)++cG 4 (dC m.kind m).length++dC m.kind m=eH m:=by
  unfold eH
  simp only [List.append_assoc,List.nil_append]
 rw [hE] at W16
 have hfl:(eH m).length=(dC m.kind m).length+10:=by
  unfold eH
  simp only [List.length_append,aF]
  omega
 obtain ⟨a17,c17,h17,e17,s17,gs17,o17,f17⟩:=r48 W16 (by omega)
 obtain ⟨h18,e18,o18⟩:=r34 (h:=h17) (by rw [o17.n0];exact W16.g4) (c:=c17) s17 (by omega)
 have W18:=W16.bm (o17.trans o18)
 have hby:Bys (eH m):=(ba s17).2.1
 obtain ⟨h19,e19,W19,k19⟩:=r51 W18 (v:=crcN (eH m)) (by omega) (crcN_lt hby)
 obtain ⟨a20,c20,h20,e20,s20,gs20,o20,f20⟩:=r48 W19 (by rw [List.length_append,aF];omega)
 have K19:=(K16.trans (WS.ff W16.lt (o17.trans o18))).trans k19
 have O20:Old h8 h20:=⟨by rw [o20.n0,K19.n0,o9.n0],Nat.le_trans o9.next (Nat.le_trans K19.next o20.next),fun d hd _=>(Kept.get o20 d (Nat.lt_of_lt_of_le (F9 d hd).1 K19.next) (fun h=>h)).trans ((K19.get d (F9 d hd)).trans (Kept.get o9 d hd (fun h=>h)))⟩
 have e10:CW 49 [ptr h8.next 0,.int .u16 21335] h9=some (.tuple #[],h10):=e10
 have e11:CW 50 [ptr h8.next 0,.int .u8 1] h10=some (.tuple #[],h11):=e11
 have hw32:IntKind.wrap .u32 (((dC m.kind m).length:Nat):Int)=((dC m.kind m).length:Int):=wrap_u32 (by omega) (by omega)
 refine ⟨a20,c20,h20,aG is21 hG rfl ((t21_eq _ _ _).trans ?_),s20,gs20,O8.trans O20,fun y hy => ?_⟩
 ·unfold t21
  simp -implicitDefEqProofs only [b1, A1.all, e2, if_true, z35, A2.l0, e3, bM, bN, z4, s5, e6, f6, A6.all, e7, e8, hl8, had, e9, e10, e11, A11.l0, e12, A12.l1, bX, fL, e13, A13.l2, e14, aN, hw32, e15, e16, e17, e18, e19, e20, ah, aq, ao, Nat.zero_add]
  rfl
 ·have h1:=f20 y hy
  have h2:=O8.next
  have h3:=Nat.le_trans o9.next K19.next
  omega
end
end Go.Proofs.YtjghlcdidopcpaaGreatDoor

namespace Go.Proofs.YtjghlcdidopcpaaGreatDoor
open Go Go.Abs
attribute [local congr] aP
end Go.Proofs.YtjghlcdidopcpaaGreatDoor

namespace Go.Proofs.YtjghlcdidopcpaaGreatDoor
open Go Go.Abs
attribute [local congr] aP
section
variable {x:cx} (ho:x.obj.length=32)
include ho
end
end Go.Proofs.YtjghlcdidopcpaaGreatDoor

namespace Go.Proofs.YtjghlcdidopcpaaGreatDoor
open Go Go.Abs
attribute [local congr] aP
structure Man where
 gk:Int
 gn:Int
 gt:Int
 gs:Int
 obj:List Nat
 pieces:List (List Nat)
def manC (m:Man) (v:Value):dA := [.int .i64 m.gk,.int .i64 m.gn,.int .i64 m.gt,.int .i64 m.gs]++(bI m.obj ++ [v])
theorem stored_mid {h:ak} {b o n:Nat} {k B':dA} (g:h.get b=some k) (hn:h.n0≤b) (ho:o+n≤k.length) (hB:B'.length=n) (h1:aS B'=true) : ∃ h2,dH n (ptr b o) (.agg B'.toArray) h=some (undef,h2)∧Kept h h2 (· = b)∧h2.get b=some (bw k o B')∧h2.n0≤b∧h2.next=h.next:=by
 refine ⟨h.set b (bw k o B'),?_,Kept.set hn g (.inr rfl),ak.cS hn g _,hn,rfl⟩
 unfold dH ptr
 have hc:(Value.agg B'.toArray).cells=B'.toArray:=rfl
 simp only [hc,List.size_toArray,hB,if_true]
 unfold stL
 simp only [g]
 rw [if_pos (by
  have:o+B'.length≤k.length:=by omega
  simp only [decide_eq_true hn,decide_eq_true this,h1,Bool.and_self])]
 rfl
end Go.Proofs.YtjghlcdidopcpaaGreatDoor

namespace Go.Proofs.YtjghlcdidopcpaaGreatDoor
open Go Go.Abs
attribute [local congr] aP
section
variable {s:cP} {B:Nat→Prop} (o:s.off B) {v:Value} (hv : ∀ b,slB v=some b → ¬B b)
include o hv
end
structure MsR (h:ak) (p r M:Nat) (s:Rd) (m:aZ) (sl:cP):Prop where
 R:IsRd h p r s
 g:h.get M=some (m.d.cells sl)
 x:ej h sl m
 off:sl.off (fun b=>b≤r)
 Mp:M<p
 n0:h.n0≤M
section
variable {m:aZ} {s:cP} (w:m.Wf)
include w
theorem c10 {o:List Nat} (ho:o.length=32):bw (m.d.cells s) 10 (bI o)=({ m with root:=o }:aZ).d.cells s:=splice_app (A:=m.d.front s) (B:=bI m.root) (n:=32) rfl (b6 w.root) (by simp [ho])
theorem c44 {o:List Nat} (ho:o.length=32):bw (m.d.cells s) 44 (bI o)=({ m with obj:=o }:aZ).d.cells s:=by
 have e1:m.d.cells s=(m.d.front s++(bI m.root ++ [s.d,.bool m.b7]))++(bI m.obj++(m.d.dv s ++ [.int .i64 m.cg,s.f,.int .i64 m.code])):=by
  unfold bD.cells;simp only [List.append_assoc];rfl
 rw [e1,splice_app (A:=m.d.front s++(bI m.root ++ [s.d,.bool m.b7])) (B:=bI m.obj) (o:=44) (n:=32) (by rw [List.length_append,List.length_append,b6 w.root];rfl) (b6 w.obj) (by simp [ho])]
 unfold bD.cells;simp only [List.append_assoc];rfl
theorem c76 {x:Man} {v:Value} (hx:x.obj.length=32):bw (m.d.cells s) 76 (manC x v)=({ m with gk:=x.gk,gn:=x.gn,gt:=x.gt,gs:=x.gs,cp:=x.obj,pieces:=x.pieces }:aZ).d.cells { s with e:=v }:=by
 have e1:m.d.cells s=(m.d.front s++(bI m.root++([s.d,.bool m.b7]++bI m.obj)))++(m.d.dv s ++ [.int .i64 m.cg,s.f,.int .i64 m.code]):=by
  unfold bD.cells;simp only [List.append_assoc];rfl
 rw [e1,splice_app (A:=m.d.front s++(bI m.root++([s.d,.bool m.b7]++bI m.obj))) (B:=m.d.dv s) (o:=76) (n:=37) (by rw [List.length_append,List.length_append,List.length_append,b6 w.root,b6 w.obj];rfl) (fC (aZ.ok w)) (by unfold manC;simp [hx])]
 unfold bD.cells;simp only [List.append_assoc];rfl
theorem c43 (b:Bool):(m.d.cells s).set 43 (.bool b)=({ m with b7:=b }:aZ).d.cells s:=cE (A:=m.d.front s) 33 rfl (cE 1 (by show (bI m.root).length+1=33;rw [b6 w.root]) rfl)
theorem c113 (v:Int):(m.d.cells s).set 113 (.int .i64 v)=({ m with cg:=v }:aZ).d.cells s:=
 cE (A:=m.d.front s) 103 rfl (cE 71 (by show (bI m.root).length+71=103;rw [b6 w.root]) (cE 69 rfl (cE 37 (by show (bI m.obj).length+37=69;rw [b6 w.obj]) (cE 0 (by rw [fC (aZ.ok w)]) rfl))))
theorem c115 (v:Int):(m.d.cells s).set 115 (.int .i64 v)=({ m with code:=v }:aZ).d.cells s:=
 cE (A:=m.d.front s) 105 rfl (cE 73 (by show (bI m.root).length+73=105;rw [b6 w.root]) (cE 71 rfl (cE 39 (by show (bI m.obj).length+39=71;rw [b6 w.obj]) (cE 2 (by rw [fC (aZ.ok w)]) rfl))))
end
section
variable {h:ak} {p r M:Nat} {s:Rd} {m:aZ} {sl:cP} (X:MsR h p r M s m sl)
include X
end
end Go.Proofs.YtjghlcdidopcpaaGreatDoor

namespace Go.Proofs.YtjghlcdidopcpaaGreatDoor
open Go Go.Abs
attribute [local congr] aP
section
variable {h:ak} {p r M:Nat} {s:Rd} {m:aZ} {sl:cP} (X:MsR h p r M s m sl)
include X
end
end Go.Proofs.YtjghlcdidopcpaaGreatDoor

namespace Go.Proofs.YtjghlcdidopcpaaGreatDoor
open Go Go.Abs
attribute [local congr] aP
end Go.Proofs.YtjghlcdidopcpaaGreatDoor

namespace Go.Proofs.YtjghlcdidopcpaaGreatDoor
open Go Go.Abs
attribute [local congr] aP
theorem msg_end {h0 h:ak} {b:Nat} {k:dA} {m:aZ} {sl:cP} (o:Old h0 h) (hb:h0.next≤b) (g:h.get b=some k) (hk:k.length=116) (x:ej h sl m) (of:sl.off (· = b)) : ∃ h',dH 116 (ptr b 0) (mv m sl) h=some (undef,h')∧bP 116 (ptr b 0) h'=some (mv m sl,h')∧Old h0 h'∧ej h' sl m:=by
 have hn:h.n0≤b:=by rw [o.n0];exact Nat.le_trans h0.bg hb
 have c:=dE x.sl (aZ.ok x.wf)
 obtain ⟨h',e1,k1,g1,_,_⟩:=dr (n:=116) g hn hk c.2.2 c.2.1
 exact ⟨h',e1,ldN_all g1 c.2.2 c.1,Old.of_new o k1 hb,x.dV k1 of⟩
end Go.Proofs.YtjghlcdidopcpaaGreatDoor

namespace Go.Proofs.YtjghlcdidopcpaaGreatDoor
open Go Go.Abs
theorem bit_lt (b:Bool):bit b<2:=by cases b<;>decide
def aZ.man' (m:aZ):Man:=⟨m.gk,m.gn,m.gt,m.gs,m.cp,m.pieces⟩
end Go.Proofs.YtjghlcdidopcpaaGreatDoor

namespace Go.Proofs.YtjghlcdidopcpaaGreatDoor
open Go Go.Abs
theorem valid_all {m:aZ} (v:b9 m=true):cq m.kind=true∧eA m.from_=true∧eA m.eu=true∧m.from_≠m.eu∧chkB m.kind m=true∧m=fullM m:=by
 unfold b9 at v
 simp only [Bool.and_eq_true,decide_eq_true_eq,Bool.not_eq_true',beq_eq_false_iff_ne,ne_eq] at v
 exact ⟨v.1.1.1.1.1,v.1.1.1.1.2,v.1.1.1.2,v.1.1.2,v.1.2,v.2⟩
theorem peer_of {i:Int} (h:eA i=true):0≤i∧i≤15:=by
 unfold eA at h
 simp only [Bool.and_eq_true,decide_eq_true_eq] at h
 omega
theorem tab_all {m:aZ} (h:tabB m=true):0≤m.origin∧m.origin≤15∧0≤m.target∧m.target≤15∧m.table.length≤16:=by
 have ht:=tab_fine h
 unfold tabB at h
 simp only [Bool.and_eq_true] at h
 have h1:=peer_of h.1.1
 have h2:=peer_of h.1.2
 omega
theorem range_all {m:aZ} (h:rangeB m=true):m.low.length≤34∧m.high.length≤34∧m.bC.length≤64∧(∀ x∈m.bC,eW x=true)∧0≤m.count∧m.count≤1048576:=by
 obtain ⟨a,b,c,d⟩:=eI h
 unfold rangeB at h
 simp only [Bool.and_eq_true,decide_eq_true_eq] at h
 exact ⟨a,b,c,d,by omega,by omega⟩
theorem pce_all {m:aZ} (h:pceB m=true):dp m=false∧m.data.length≤8192∧0≤m.cg∧m.cg≤254:=by
 obtain ⟨a,b⟩:=pce_fine h
 obtain ⟨_,_,_,q,_⟩:=man_fine a
 unfold pceB at h
 simp only [Bool.and_eq_true,decide_eq_true_eq] at h
 exact ⟨a,b,by omega,by omega⟩
theorem code_all {m:aZ} (h:codeB m=true):0≤m.code∧m.code≤999:=by
 unfold codeB at h
 simp only [Bool.and_eq_true,decide_eq_true_eq] at h
 omega
section
variable {m:aZ} (w:m.Wf)
include w
end
end Go.Proofs.YtjghlcdidopcpaaGreatDoor

namespace Go.Proofs.YtjghlcdidopcpaaGreatDoor
open Go Go.Abs
end Go.Proofs.YtjghlcdidopcpaaGreatDoor

namespace Go.Proofs.YtjghlcdidopcpaaGreatDoor
open Go Go.Abs
end Go.Proofs.YtjghlcdidopcpaaGreatDoor

namespace Go.Proofs.YtjghlcdidopcpaaGreatDoor
open Go Go.Abs
attribute [local congr] aP
section
variable {h:ak} {s:cP} {m:aZ} (hG:4≤h.n0) (x:ej h s m)
include hG x
theorem r18m : ∃ (r:Bool) (h':ak),CW 18 [mv m s] h=some (.bool r,h')∧(r=false→m.n.Small)∧Old h h':=r18 hG x.sl (aZ.ok x.wf)
theorem r20m (sm:m.n.Small) : ∃ s' h',CW 20 [mv m s] h=some (mv m s',h')∧ej h' s' m∧Old h h':=by
 obtain ⟨s',h',e,X,o⟩:=r20 hG x.sl (aZ.ok x.wf) sm
 exact ⟨s',h',e,⟨X,x.wf⟩,o⟩
theorem r15m {s':cP} {m':aZ} (x':ej h s' m') (sm:m.n.Small) : ∃ h',CW 15 [mv m s,mv m' s'] h=some (.bool (decide (m=m')),h')∧Old h h':=by
 obtain ⟨r,h',e,hr,o⟩:=r15 hG x.sl x'.sl (aZ.ok x.wf) (aZ.ok x'.wf) sm
 refine ⟨h',?_,o⟩
 have:r=decide (m=m'):=by
  by_cases q:m=m'
  ·rw [decide_eq_true q,hr.2 (by rw [q])]
  ·rw [decide_eq_false q]
   cases r with
   |false=>rfl
   |true=>exact absurd (aZ.d_inj x.wf x'.wf (hr.1 rfl)) q
 rw [←this];exact e
end
def Zm:dA:=Zl
theorem newZ (h:ak):fz Zl h=some (ptr h.next 0,h.alloc Zm):=rfl
theorem var_m {h:ak} {s:cP} {m:aZ} (x:ej h s m) : ∃ h2,dH 116 (ptr h.next 0) (mv m s) (h.alloc Zm)=some (undef,h2)∧Old h h2∧h2.get h.next=some (m.d.cells s)∧h2.next=h.next+1:=by
 have c:=dE x.sl (aZ.ok x.wf)
 exact one_new h (show Zm.length=116 by rfl) c.2.2 c.2.1
theorem own0 (h:ak):cM (h.alloc []) h.next (.slice (some ⟨h.next,0,none⟩) 0 0) []:=⟨OwnC.empty _ (Nat.le_refl _),by simp⟩
theorem enc_le {m:aZ} (w:m.Wf) (v:b9 m=true):(enc m).length≤1000000:=by
 obtain ⟨v1,v2⟩:=valid_parts v
 have:=body_len v1 v2 w
 unfold enc eH
 simp only [List.length_append,aF]
 omega
end Go.Proofs.YtjghlcdidopcpaaGreatDoor

namespace Go.Proofs.YtjghlcdidopcpaaGreatDoor
open Go Go.Abs
attribute [local congr] aP
@[ext] structure Cu where
  l:List Nat
  bad:Bool
abbrev cutC (s:Value) (b:Bool):dA := [s,.bool b]
def CutV (h:ak) (N:Nat) (v:Value) (c:Cu):Prop := ∃ a p,v = .agg (cutC (.slice a c.l.length p) c.bad).toArray∧aJ a c.l.length h=some c.l∧goodS a c.l.length p=true∧c.l.length≤21000 ∧ ∀ y,a=some y→0<c.l.length→y.block<N
theorem zeros_u8 (n:Nat):df [(.int .u8 0)] n=(List.replicate n 0).map u8:=by
 unfold df
 rw [List.map_replicate]
 induction n with
 |zero=>rfl
 |succ n ih=>rw [List.range_succ,List.flatMap_append,ih,List.replicate_succ'];rfl
section
variable {h:ak} {N:Nat} {v:Value} {c:Cu} (hG:4≤h.n0) (hN:N≤h.next) (x:CutV h N v c)
include hG hN x
end
end Go.Proofs.YtjghlcdidopcpaaGreatDoor

namespace Go.Proofs.YtjghlcdidopcpaaGreatDoor
open Go Go.Abs
attribute [local congr] aP
theorem idxA32 (D i:Nat) (hi:i<32):idxA 32 1 (ptr D 0) (aN i)=some (ptr D i):=by
 unfold idxA aN
 simp only
 rw [if_pos (by omega),ao,Int.toNat_natCast,Nat.mul_one,Nat.zero_add]
theorem u8s_veq (l:List Nat):fa (.agg (bI l).toArray) (.agg (bI l).toArray)=true:=by
 show veqL (bI l) (bI l)=true
 refine veqL_of _ fun v hv => ?_
 obtain ⟨x,_,rfl⟩:=List.mem_map.1 hv
 simp [fa]
section
variable {h:ak} {N:Nat} {v:Value} {c:Cu} (hG:4≤h.n0) (hN:N≤h.next) (x:CutV h N v c)
include hG hN x
end
end Go.Proofs.YtjghlcdidopcpaaGreatDoor

namespace Go.Proofs.YtjghlcdidopcpaaGreatDoor
open Go Go.Abs
attribute [local congr] aP
def GZ (h:ak):Prop:=h.get 0=some (bI z32)
theorem GZ.bm {h h':ak} (x:GZ h) (o:Old h h'):GZ h':=Old.get o x
theorem GZ.ld {h:ak} (x:GZ h):bP 32 (ptr 0 0) h=some (.agg (bI z32).toArray,h):=ldN_all x rfl (u8s_ok _).1
theorem is59:bB Tryz.prog 59 Tryz.f59:=⟨by kernel_rfl,by kernel_rfl,by kernel_rfl,by kernel_rfl⟩
theorem r59 {h:ak} (hG:4≤h.n0) (i:Int):CW 59 [.int .i64 i] h=some (.bool (eA i),h):=by
 have e:eA i=(decide (i≥0)&&decide (i≤15)):=by
  unfold eA
  congr 1
  exact decide_eq_decide.2 (by omega)
 rw [e]
 refine aG is59 hG rfl ((t59_eq _ _ _).trans ?_)
 unfold t59
 cases q0:decide (i≥0) with
 |false=>simp -implicitDefEqProofs only [ah, ah, aq, ar, fs, ai, Bool.false_eq_true, if_false, aB, q0, Bool.false_and]
 |true=>
 cases q1:decide (i≤15) with
 |false=>simp -implicitDefEqProofs only [ah, ah, aq, ar, beq_self_eq_true, aj, if_true, aB, aC, q0, q1, Bool.and_false]
 |true=>
 simp -implicitDefEqProofs only [ah, ah, aq, ar, beq_self_eq_true, aj, if_true, aB, aC, q0, q1, Bool.and_true]
theorem is92:bB Tryz.prog 92 Tryz.f92:=⟨by kernel_rfl,by kernel_rfl,by kernel_rfl,by kernel_rfl⟩
theorem r92 {h:ak} (hG:4≤h.n0) (k n t:Int):CW 92 [.int .i64 k,.int .i64 n,.int .i64 t] h=some (.bool (sizesB k n t),h):=by
 refine aG is92 hG rfl ((t92_eq _ _ _ _ _).trans ?_)
 unfold t92 sizesB
 cases q0:decide (1≤k) with
 |false=>simp -implicitDefEqProofs only [ah, ah, aq, ar, fs, ai, Bool.false_eq_true, if_false, aC, q0, Bool.false_and]
 |true=>
 cases q1:decide (k≤n) with
 |false=>simp -implicitDefEqProofs only [ah, ah, aq, ar, fs, beq_self_eq_true, aj, ai, Bool.false_eq_true, if_false, if_true, aC, q0, q1, Bool.and_false, Bool.false_and]
 |true=>
 cases q2:decide (n≤t) with
 |false=>simp -implicitDefEqProofs only [ah, ah, aq, ar, fs, beq_self_eq_true, aj, ai, Bool.false_eq_true, if_false, if_true, aC, q0, q1, q2, Bool.and_true, Bool.and_false, Bool.false_and]
 |true=>
 cases q3:decide (t≤255) with
 |false=>simp -implicitDefEqProofs only [ah, ah, aq, ar, beq_self_eq_true, aj, if_true, aC, q0, q1, q2, q3, Bool.and_true, Bool.and_false]
 |true=>
 simp -implicitDefEqProofs only [ah, ah, aq, ar, beq_self_eq_true, aj, if_true, aC, q0, q1, q2, q3, Bool.and_true]
theorem is91:bB Tryz.prog 91 Tryz.f91:=⟨by kernel_rfl,by kernel_rfl,by kernel_rfl,by kernel_rfl⟩
theorem r91 {h:ak} (hG:4≤h.n0) (m:eh) : ∃ h',CW 91 [.agg (eV m).toArray] h=some (.bool (memB m),h')∧Old h h':=by
 obtain ⟨h1,b1,o1,l0,l1,-⟩:=mem_box h m
 refine ⟨h1,aG is91 hG rfl ((t91_eq _ _ _).trans ?_),o1⟩
 unfold t91 memB
 cases q0:decide ((m.st:Int)≤4) with
 |false=>simp -implicitDefEqProofs only [b1, l1, ah, aq, ar, fs, ai, Bool.false_eq_true, if_false, ao, Nat.zero_add, aC, q0, Bool.false_and]
 |true=>
 simp -implicitDefEqProofs only [b1, l0, l1, eql_bool, ah, aq, ar, beq_self_eq_true, aj, if_true, ao, Nat.zero_add, aC, ay, q0, Bool.true_and]
theorem is61:bB Tryz.prog 61 Tryz.f61:=⟨by kernel_rfl,by kernel_rfl,by kernel_rfl,by kernel_rfl⟩
theorem results61:Tryz.f61.results.toList = [.tmp 2]:=by kernel_rfl
theorem b61_exit (C:av) (e:Env) (h:ak):b61_6 C 0 e h=k61_4 C e h:=rfl
def vtInv (h0:ak) (v:Value) (l:List eh) (k:Nat) (y:Nat→Value) (g:ak):Prop:=
 ∃ i,i+k=l.length∧y 0=v∧y 3=aN i∧Old h0 g∧(l.take i).any (fun m => !memB m)=false
def vtFin (h0:ak) (l:List eh) (ex:Ex) (y:Nat→Value) (g:ak):Prop:=
 Old h0 g∧((ex = .ret∧y 2 = .bool false∧l.any (fun m => !memB m)=true)∨(ex = .exit 0∧l.any (fun m => !memB m)=false))
theorem vtRound {h0:ak} {v:Value} {l:List eh} (hG:4≤h0.n0) (x:dn h0 memK v l.length (l.flatMap eV)) (hw : ∀ x∈l,x.Wf) (hl:l.length≤1000000) : ∀ k y g,vtInv h0 v l k y g→dw 24 (vtInv h0 v l) (vtFin h0 l) k (t61l61_11010 CW y g):=by
 rintro k y g ⟨i,hik,y0,y3,o,ha⟩
 unfold t61l61_11010
 by_cases hi:i<l.length
 ·obtain ⟨b,q,kb,_,a1,_,_,_,a2,_⟩:=(x.bm o).at hi
  obtain ⟨m,hm⟩ : ∃ m,l[i]? = some m:=⟨l[i],List.getElem?_eq_getElem hi⟩
  have a1:cD 2 v (aN i)=some (ptr b (q+i*2)):=a1
  have a2:bP 2 (ptr b (q+i*2)) g=some (.agg (el 2 (l.flatMap eV) i).toArray,g):=a2
  rw [el_flat157 hw hm] at a2
  obtain ⟨g',e,o'⟩:=r91 (h:=g) (by rw [o.n0];exact hG) m
  have hs:(l.take (i+1)).any (fun m => !memB m) = !memB m:=by
   rw [List.take_add_one,hm,List.any_append,ha]
   simp
  simp -implicitDefEqProofs only [y3,dI,y0,x.len,decide_eq_true hi,ah,aq,a1,a2,e,au]
  cases hp:memB m with
  |true=>
   simp -implicitDefEqProofs only [Bool.not_true, ah, aq, eT (show i+1≤9223372036854775807 by omega)]
   exact dw.next (k-1) (by omega) ⟨i+1,by omega,y0,rfl,o.trans o',by rw [hs,hp];rfl⟩
  |false=>
   simp -implicitDefEqProofs only [Bool.not_false]
   refine dw.ret ⟨o.trans o',.inl ⟨rfl,rfl,?_⟩⟩
   rw [List.any_eq_true]
   exact ⟨m,List.mem_of_getElem? hm,by rw [hp];rfl⟩
 ·simp -implicitDefEqProofs only [y3,y0,x.len,dI,decide_eq_false hi,ah,aq]
  refine dw.out 0 ⟨o,.inr ⟨rfl,?_⟩⟩
  rw [List.take_of_length_le (by omega)] at ha
  exact ha
theorem r61 {h:ak} {v:Value} {l:List eh} (hG:4≤h.n0) (x:dn h memK v l.length (l.flatMap eV)) (hw : ∀ x∈l,x.Wf) : ∃ h',CW 61 [v] h=some (.bool (tableB l),h')∧Old h h':=by
 have q1:bin Tryz.prog .lss 3 (aN l.length) (.int .i64 1)=some (.bool (decide (l.length<1))):=dI l.length 1
 have q2:bin Tryz.prog .gtr 3 (aN l.length) (.int .i64 16)=some (.bool (decide (16<l.length))):=gtr3 l.length 16
 have key : ∃ h',t61 CW v h=some (.bool (tableB l),h')∧Old h h':=by
  unfold t61 tableB
  by_cases c1:l.length<1
  ·rw [decide_eq_true c1] at q1
   refine ⟨h,?_,Kept.refl _ _⟩
   rw [decide_eq_false (by omega)]
   simp -implicitDefEqProofs only [x.len, q1, ah, aq, ar, sf, ai, if_true, Bool.false_and]
  rw [decide_eq_false c1] at q1
  by_cases c2:16<l.length
  ·rw [decide_eq_true c2] at q2
   refine ⟨h,?_,Kept.refl _ _⟩
   rw [decide_eq_true (by omega),decide_eq_false (by omega)]
   simp -implicitDefEqProofs only [x.len, q1, q2, ah, aq, ar, beq_self_eq_true, aj, Bool.false_eq_true, if_false, Bool.false_and, Bool.and_false]
  rw [decide_eq_false c2] at q2
  rw [decide_eq_true (by omega),decide_eq_true (by omega)]
  simp -implicitDefEqProofs only [x.len, q1, q2, ah, aq, ar, beq_self_eq_true, aj, Bool.false_eq_true, if_false, Bool.true_and]
  refine cy (Q:=fun o:Out => ∃ h',o=some (Value.bool (!(l.any fun m => !memB m)),h')∧Old h h') (cn (t61l61_11010_eq CW) (vtRound hG x hw (by omega)) l.length (by have:rounds=18446744073709551616:=rfl;omega)
   ⟨0,Nat.zero_add _,rfl,rfl,Kept.refl _ _,rfl⟩) ?_
  rintro ex z g ⟨o,⟨rfl,z2,ha⟩|⟨rfl,ha⟩⟩
  ·rw [eL,fv results61 (by decide),z2,ha]
   exact ⟨g,rfl,o⟩
  ·rw [bG,b61_exit,t61k61_4_eq,ha]
   exact ⟨g,rfl,o⟩
 obtain ⟨h',e,o⟩:=key
 exact ⟨h',aG is61 hG rfl ((t61_eq _ _ _).trans e),o⟩
theorem is63:bB Tryz.prog 63 Tryz.f63:=⟨by kernel_rfl,by kernel_rfl,by kernel_rfl,by kernel_rfl⟩
theorem r63 {h:ak} {s:cP} {m:aZ} (hG:4≤h.n0) (x:ej h s m) : ∃ h',CW 63 [gv m s] h=some (.bool (!dp m),h')∧Old h h':=by
 have c:=man_ok x.sl (aZ.ok x.wf)
 have b1:box (gv m s) h=some (ptr h.next 0,h.alloc (m.d.dv s)):=c9 h _ c.2.1
 have o1:Old h (h.alloc (m.d.dv s)):=Kept.alloc _ _ _
 have g1:(h.alloc (m.d.dv s)).get h.next=some (m.d.dv s):=by rw [ak.aM,if_pos rfl]
 generalize h.alloc (m.d.dv s)=h1 at *
 have A:=fB (x.sl.bm o1) (aZ.ok x.wf) g1
 have l0:aK (ptr h.next 0) h1=some (.int .i64 m.gk,h1):=A.l0
 have l1:aK (ptr h.next 1) h1=some (.int .i64 m.gn,h1):=A.l1
 have l2:aK (ptr h.next 2) h1=some (.int .i64 m.gt,h1):=A.l2
 have l3:aK (ptr h.next 3) h1=some (.int .i64 m.gs,h1):=A.l3
 have e2:=r92 (h:=h1) (by rw [o1.n0];exact hG) m.gk m.gn m.gt
 have ln:=x.len.2.2.2.2.1
 have e:(!dp m)=(sizesB m.gk m.gn m.gt&&decide (m.gs≥0)&&decide (m.gs≤8192)&&((m.pieces.length:Int)==m.gt)):=by
  unfold dp
  have p1:decide (m.gs<0) = !decide (m.gs≥0):=by rw [←decide_not];exact decide_eq_decide.2 (by omega)
  have p2:decide (m.gs>8192) = !decide (m.gs≤8192):=by rw [←decide_not];exact decide_eq_decide.2 (by omega)
  rw [p1,p2]
  cases sizesB m.gk m.gn m.gt<;>cases decide (m.gs≥0)<;>cases decide (m.gs≤8192)<;>cases h:((m.pieces.length:Int)==m.gt)<;>simp [bne,h]
 refine ⟨h1,aG is63 hG rfl ((t63_eq _ _ _).trans ?_),o1⟩
 rw [e]
 unfold t63
 cases q0:sizesB m.gk m.gn m.gt with
 |false=>simp -implicitDefEqProofs only [b1, l0, l1, l2, e2, ah, aq, ar, fs, ai, Bool.false_eq_true, if_false, ao, Nat.zero_add, q0, Bool.false_and]
 |true=>
 cases q1:decide (m.gs≥0) with
 |false=>simp -implicitDefEqProofs only [b1, l0, l1, l2, l3, e2, ah, aq, ar, fs, beq_self_eq_true, aj, ai, Bool.false_eq_true, if_false, if_true, ao, Nat.zero_add, aB, q0, q1, Bool.and_false, Bool.false_and]
 |true=>
 cases q2:decide (m.gs≤8192) with
 |false=>simp -implicitDefEqProofs only [b1, l0, l1, l2, l3, e2, ah, aq, ar, fs, beq_self_eq_true, aj, ai, Bool.false_eq_true, if_false, if_true, ao, Nat.zero_add, aB, aC, q0, q1, q2, Bool.and_true, Bool.and_false, Bool.false_and]
 |true=>
 simp -implicitDefEqProofs only [b1, l0, l1, l2, l3, A.dP, e2, ln, aN, ah, aq, ar, beq_self_eq_true, aj, if_true, ao, Nat.zero_add, aB, aC, ay, q0, q1, q2, Bool.and_true, Bool.true_and]
def personB (r:cx):Bool:=decide (r.cC≥0)&&decide (r.cC≤15)&&decide ((r.inc:Int)≥1)
def bareB (r:cx):Bool:=((r.num:Int)==0)&&(!r.held)&&(r.k==0)&&(r.n==0)
theorem person_seg {h:ak} {b:Nat} {r:cx} (A:RLd h b r) (K:Value→ak→Out) :
 (
 ae (pu (az (ptr b 0) 33) h) fun y5 h=>
 ae (aK y5 h) fun y6 h=>
 ae (pu (bin Tryz.prog .geq 3 y6 (.int .i64 0)) h) fun y7 h=>
 ae (some (y7,h)) fun y8 h=>
 ae (al (aH y8==some true) (pu (az (ptr b 0) 33) h) h) fun y9 h=>
 ae (al (aH y8==some true) (aK y9 h) h) fun y10 h=>
 ae (al (aH y8==some true) (pu (bin Tryz.prog .leq 3 y10 (.int .i64 15)) h) h) fun y11 h=>
 ae (match y8 with | .bool t=>some (if t then y11 else (.bool false),h)|_=>none) fun y12 h=>
 ae (some (y12,h)) fun y13 h=>
 ae (al (aH y13==some true) (pu (az (ptr b 0) 34) h) h) fun y14 h=>
 ae (al (aH y13==some true) (aK y14 h) h) fun y15 h=>
 ae (al (aH y13==some true) (pu (bin Tryz.prog .geq 25 y15 (.int .u64 1)) h) h) fun y16 h=>
 ae (match y13 with | .bool t=>some (if t then y16 else (.bool false),h)|_=>none) fun y17 h=>
 ae (some (y17,h)) fun y3 h=>
 K y3 h)=K (.bool (personB r)) h:=by
 unfold personB
 cases q0:decide (r.cC≥0) with
 |false=>simp -implicitDefEqProofs only [A.l33, ah, aq, ar, fs, ai, Bool.false_eq_true, if_false, ao, Nat.zero_add, aB, q0, Bool.false_and]
 |true=>
 cases q1:decide (r.cC≤15) with
 |false=>simp -implicitDefEqProofs only [A.l33, ah, aq, ar, fs, beq_self_eq_true, aj, ai, Bool.false_eq_true, if_false, if_true, ao, Nat.zero_add, aB, aC, q0, q1, Bool.and_false, Bool.false_and]
 |true=>
 cases q2:decide ((r.inc:Int)≥1) with
 |false=>simp -implicitDefEqProofs only [A.l33, A.l34, ah, aq, ar, beq_self_eq_true, aj, if_true, ao, Nat.zero_add, aB, aC, q0, q1, q2, Bool.and_true, Bool.and_false]
 |true=>
 simp -implicitDefEqProofs only [A.l33, A.l34, ah, aq, ar, beq_self_eq_true, aj, if_true, ao, Nat.zero_add, aB, aC, q0, q1, q2, Bool.and_true]
theorem bare_seg {h:ak} {b:Nat} {r:cx} (A:RLd h b r) (K:Value→ak→Out) :
 (
 ae (pu (az (ptr b 0) 35) h) fun y18 h=>
 ae (aK y18 h) fun y19 h=>
 ae (pu (bin Tryz.prog .eql 25 y19 (.int .u64 0)) h) fun y20 h=>
 ae (some (y20,h)) fun y21 h=>
 ae (al (aH y21==some true) (pu (az (ptr b 0) 36) h) h) fun y22 h=>
 ae (al (aH y21==some true) (aK y22 h) h) fun y23 h=>
 ae (al (aH y21==some true) (pu (unA .not y23) h) h) fun y24 h=>
 ae (match y21 with | .bool t=>some (if t then y24 else (.bool false),h)|_=>none) fun y25 h=>
 ae (some (y25,h)) fun y26 h=>
 ae (al (aH y26==some true) (pu (az (ptr b 0) 37) h) h) fun y27 h=>
 ae (al (aH y26==some true) (aK y27 h) h) fun y28 h=>
 ae (al (aH y26==some true) (pu (bin Tryz.prog .eql 3 y28 (.int .i64 0)) h) h) fun y29 h=>
 ae (match y26 with | .bool t=>some (if t then y29 else (.bool false),h)|_=>none) fun y30 h=>
 ae (some (y30,h)) fun y31 h=>
 ae (al (aH y31==some true) (pu (az (ptr b 0) 38) h) h) fun y32 h=>
 ae (al (aH y31==some true) (aK y32 h) h) fun y33 h=>
 ae (al (aH y31==some true) (pu (bin Tryz.prog .eql 3 y33 (.int .i64 0)) h) h) fun y34 h=>
 ae (match y31 with | .bool t=>some (if t then y34 else (.bool false),h)|_=>none) fun y35 h=>
 ae (some (y35,h)) fun y4 h=>
 K y4 h)=K (.bool (bareB r)) h:=by
 unfold bareB
 cases q0:((r.num:Int)==0) with
 |false=>simp -implicitDefEqProofs only [A.l35, ah, aq, ar, fs, ai, Bool.false_eq_true, if_false, ao, Nat.zero_add, ay, q0, Bool.false_and]
 |true=>
 cases q1:(!r.held) with
 |false=>simp -implicitDefEqProofs only [A.l35, A.dP, ah, aq, ar, fs, beq_self_eq_true, aj, ai, Bool.false_eq_true, if_false, if_true, ao, Nat.zero_add, au, ay, q0, q1, Bool.and_false, Bool.false_and]
 |true=>
 cases q2:(r.k==0) with
 |false=>simp -implicitDefEqProofs only [A.l35, A.dP, A.l37, ah, aq, ar, fs, beq_self_eq_true, aj, ai, Bool.false_eq_true, if_false, if_true, ao, Nat.zero_add, au, ay, q0, q1, q2, Bool.and_true, Bool.and_false, Bool.false_and]
 |true=>
 cases q3:(r.n==0) with
 |false=>simp -implicitDefEqProofs only [A.l35, A.dP, A.l37, A.l38, ah, aq, ar, beq_self_eq_true, aj, if_true, ao, Nat.zero_add, au, ay, q0, q1, q2, q3, Bool.and_true, Bool.and_false]
 |true=>
 simp -implicitDefEqProofs only [A.l35, A.dP, A.l37, A.l38, ah, aq, ar, beq_self_eq_true, aj, if_true, ao, Nat.zero_add, au, ay, q0, q1, q2, q3, Bool.and_true]
def recR (r:cx):Bool:=if (r.kind:Int)==1 then personB r&&bareB r&&decide (r.obj=z32) else if (r.kind:Int)==2 then bareB r&&(r.cC==0)&&((r.inc:Int)==0) else if (r.kind:Int)==3 then personB r&&decide ((r.num:Int)≥1)&&decide (1≤r.k)&&decide (r.k≤r.n)&&decide (r.n≤255) else false
theorem person_holder (r:cx):personB r=holderB r:=by
 unfold personB holderB
 congr 2
 exact decide_eq_decide.2 (by omega)
theorem bare_spec (r:cx):bareB r=true↔r.num=0∧r.held=false∧r.k=0∧r.n=0:=by
 unfold bareB
 simp only [Bool.and_eq_true,beq_iff_eq,Bool.not_eq_true']
 constructor
 ·rintro ⟨⟨⟨h1,h2⟩,h3⟩,h4⟩
  exact ⟨by omega,h2,h3,h4⟩
 ·rintro ⟨h1,h2,h3,h4⟩
  exact ⟨⟨⟨by omega,h2⟩,h3⟩,h4⟩
theorem recR_eq (r:cx):recR r=eW r:=by
 unfold recR eW pieceB
 rw [person_holder]
 split
 ·rw [Bool.eq_iff_iff]
  simp only [Bool.and_eq_true,decide_eq_true_eq,bare_spec]
  constructor
  ·rintro ⟨⟨h1,h2,h3,h4,h5⟩,h6⟩
   refine ⟨?_,h1⟩
   unfold cx.base cx.z
   exact cx.ext rfl h6 rfl rfl h2 h3 h4 h5
  ·rintro ⟨h1,h2⟩
   refine ⟨⟨h2,?_⟩,?_⟩
   ·rw [h1];exact ⟨rfl,rfl,rfl,rfl⟩
   ·rw [h1];rfl
 split
 ·rw [Bool.eq_iff_iff]
  simp only [Bool.and_eq_true,decide_eq_true_eq,bare_spec,beq_iff_eq]
  constructor
  ·rintro ⟨⟨⟨h2,h3,h4,h5⟩,h6⟩,h7⟩
   unfold cx.grave cx.z
   exact cx.ext rfl rfl h6 (by show r.inc=0;omega) h2 h3 h4 h5
  ·intro h1
   refine ⟨⟨?_,?_⟩,?_⟩
   ·rw [h1];exact ⟨rfl,rfl,rfl,rfl⟩
   ·rw [h1];rfl
   ·rw [h1];rfl
 ·rfl
theorem is62:bB Tryz.prog 62 Tryz.f62:=⟨by kernel_rfl,by kernel_rfl,by kernel_rfl,by kernel_rfl⟩
set_option maxRecDepth 100000 in
theorem r62 {h:ak} (hG:4≤h.n0) (hz:GZ h) {r:cx} (w:r.Wf) : ∃ h',CW 62 [.agg (recC r).toArray] h=some (.bool (eW r),h')∧Old h h':=by
 obtain ⟨h1,b1,o1,A⟩:=rec_box h w
 have z1:=(hz.bm o1).ld
 obtain ⟨q,hq,e28,_⟩:=eq28 (bI r.obj) (bI z32) (fo w.obj) (fo z32_ok)
 have hq:q=decide (r.obj=z32):=by
  by_cases e:r.obj=z32
  ·rw [decide_eq_true e,hq.2 (by rw [e])]
  ·rw [decide_eq_false e]
   cases q with
   |false=>rfl
   |true=>exact absurd (u8s_inj (hq.1 rfl)) e
 rw [hq] at e28
 refine ⟨h1,aG is62 hG rfl ((t62_eq _ _ _).trans ?_),o1⟩
 rw [←recR_eq]
 unfold t62
 rw [b1,ah,ah]
 refine (person_seg A _).trans ?_
 refine (bare_seg A _).trans ?_
 unfold recR
 cases k1:(r.kind:Int)==1 with
 |true=>
  rw [if_pos rfl]
  cases q0:personB r with
  |false=>simp -implicitDefEqProofs only [A.l0, k1, ah, aq, ar, fs, ai, Bool.false_eq_true, if_false, ao, Nat.zero_add, ay, Bool.false_and]
  |true=>
  cases q1:bareB r with
  |false=>simp -implicitDefEqProofs only [A.l0, k1, ah, aq, ar, fs, beq_self_eq_true, aj, ai, Bool.false_eq_true, if_false, if_true, ao, Nat.zero_add, ay, Bool.and_false, Bool.false_and]
  |true=>
  simp -implicitDefEqProofs only [A.l0, A.l1, k1, z1, e28, ah, aq, ar, beq_self_eq_true, aj, if_true, ao, Nat.zero_add, ay, Bool.and_true, Bool.true_and]
 |false=>
 rw [if_neg (by decide)]
 cases k2:(r.kind:Int)==2 with
 |true=>
  rw [if_pos rfl]
  cases q0:bareB r with
  |false=>simp -implicitDefEqProofs only [A.l0, k1, k2, ah, aq, ar, fs, ai, Bool.false_eq_true, if_false, ao, Nat.zero_add, ay, Bool.false_and]
  |true=>
  cases q1:(r.cC==0) with
  |false=>simp -implicitDefEqProofs only [A.l0, A.l33, k1, k2, ah, aq, ar, fs, beq_self_eq_true, aj, ai, Bool.false_eq_true, if_false, if_true, ao, Nat.zero_add, ay, q1, Bool.and_false, Bool.false_and]
  |true=>
  simp -implicitDefEqProofs only [A.l0, A.l33, A.l34, k1, k2, ah, aq, ar, beq_self_eq_true, aj, if_true, ao, Nat.zero_add, ay, q1, Bool.and_true, Bool.true_and]
 |false=>
 rw [if_neg (by decide)]
 cases k3:(r.kind:Int)==3 with
 |true=>
  rw [if_pos rfl]
  cases q0:personB r with
  |false=>simp -implicitDefEqProofs only [A.l0, k1, k2, k3, ah, aq, ar, fs, ai, Bool.false_eq_true, if_false, ao, Nat.zero_add, ay, Bool.false_and]
  |true=>
  cases q1:decide ((r.num:Int)≥1) with
  |false=>simp -implicitDefEqProofs only [A.l0, A.l35, k1, k2, k3, ah, aq, ar, fs, beq_self_eq_true, aj, ai, Bool.false_eq_true, if_false, if_true, ao, Nat.zero_add, aB, ay, q1, Bool.and_false, Bool.false_and]
  |true=>
  cases q2:decide (1≤r.k) with
  |false=>simp -implicitDefEqProofs only [A.l0, A.l35, A.l37, k1, k2, k3, ah, aq, ar, fs, beq_self_eq_true, aj, ai, Bool.false_eq_true, if_false, if_true, ao, Nat.zero_add, aB, aC, ay, q1, q2, Bool.and_true, Bool.and_false, Bool.false_and]
  |true=>
  cases q3:decide (r.k≤r.n) with
  |false=>simp -implicitDefEqProofs only [A.l0, A.l35, A.l37, A.l38, k1, k2, k3, ah, aq, ar, fs, beq_self_eq_true, aj, ai, Bool.false_eq_true, if_false, if_true, ao, Nat.zero_add, aB, aC, ay, q1, q2, q3, Bool.and_true, Bool.and_false, Bool.false_and]
  |true=>
  cases q4:decide (r.n≤255) with
  |false=>simp -implicitDefEqProofs only [A.l0, A.l35, A.l37, A.l38, k1, k2, k3, ah, aq, ar, beq_self_eq_true, aj, if_true, ao, Nat.zero_add, aB, aC, ay, q1, q2, q3, q4, Bool.and_true, Bool.and_false]
  |true=>
  simp -implicitDefEqProofs only [A.l0, A.l35, A.l37, A.l38, k1, k2, k3, ah, aq, ar, beq_self_eq_true, aj, if_true, ao, Nat.zero_add, aB, aC, ay, q1, q2, q3, q4, Bool.and_true]
 |false=>
 rw [if_neg (by decide)]
 simp -implicitDefEqProofs only [A.l0, k1, k2, k3, ah, aq, ar, ao, Nat.zero_add, ay]
theorem is90:bB Tryz.prog 90 Tryz.f90:=⟨by kernel_rfl,by kernel_rfl,by kernel_rfl,by kernel_rfl⟩
theorem r90 {h:ak} (hG:4≤h.n0) {k:Nat} (hk:cq k=true):CW 90 [.int .u8 (k:Int)] h=some (.tuple #[.bool (decide (k≤3)),.bool (k==4||k==5),.bool (k==5),.bool (decide (6≤k)),.bool (k==8||k==10)],h):=by
 refine aG is90 hG rfl ((t90_eq _ _ _).trans ?_)
 unfold t90
 rcases kinds hk with rfl|rfl|rfl|rfl|rfl|rfl|rfl|rfl|rfl|rfl|rfl|rfl|rfl<;>kernel_rfl
end Go.Proofs.YtjghlcdidopcpaaGreatDoor

namespace Go.Proofs.YtjghlcdidopcpaaGreatDoor
open Go Go.Abs
attribute [local congr] aP
def bq3 (m q:aZ):aZ:=if m.kind≤3 then (if m.kind=3 then { q with seq:=m.seq,table:=m.table,target:=m.target } else { q with seq:=m.seq,table:=m.table,origin:=m.origin }) else q
def bs3 (m:aZ) (s sl:cP):cP:=if m.kind≤3 then { sl with a:=s.a } else sl
def bq4 (m q:aZ):aZ:=if (m.kind==4||m.kind==5)=true then { q with low:=m.low,high:=m.high } else q
def bs4 (m:aZ) (s sl:cP):cP:=if (m.kind==4||m.kind==5)=true then { sl with b:=s.b,c:=s.c } else sl
def bq5 (m q:aZ):aZ:=if (m.kind==5)=true then { q with bC:=m.bC,b7:=m.b7 } else q
def bs5 (m:aZ) (s sl:cP):cP:=if (m.kind==5)=true then { sl with d:=s.d } else sl
def bq6 (m q:aZ):aZ:=if m.kind=4 then { q with count:=m.count,root:=m.root } else q
def bs6 (m:aZ) (s sl:cP):cP:=sl
def bq7 (m q:aZ):aZ:=if 6≤m.kind then { q with obj:=m.obj } else q
def bs7 (m:aZ) (s sl:cP):cP:=sl
def bq8 (m q:aZ):aZ:=if (m.kind==8||m.kind==10)=true then { q with gk:=m.gk,gn:=m.gn,gt:=m.gt,gs:=m.gs,cp:=m.cp,pieces:=m.pieces,cg:=m.cg,data:=m.data } else q
def bs8 (m:aZ) (s sl:cP):cP:=if (m.kind==8||m.kind==10)=true then { sl with e:=s.e,f:=s.f } else sl
def bq9 (m q:aZ):aZ:=if m.kind=11 then { q with code:=m.code } else q
def bs9 (m:aZ) (s sl:cP):cP:=sl
def bareQ (m:aZ):aZ:=bq9 m (bq8 m (bq7 m (bq6 m (bq5 m (bq4 m (bq3 m { aZ.z with kind:=m.kind,from_:=m.from_,eu:=m.eu }))))))
def eS (m:aZ) (s:cP):cP:=bs9 m s (bs8 m s (bs7 m s (bs6 m s (bs5 m s (bs4 m s (bs3 m s bV))))))
theorem bareQ_eq {m:aZ} (hk:cq m.kind=true):bareQ m=fullM m:=by
 obtain ⟨k,_,_,_,_,_,_,_,_,_,_,_,_,_,_,_,_,_,_,_,_,_,_⟩:=m
 rcases kinds hk with h|h|h|h|h|h|h|h|h|h|h|h|h<;>(have h:k=_:=h;subst h;rfl)
theorem bareS_has {h:ak} {s:cP} {m:aZ} (hk:cq m.kind=true) (x:ej h s m):ej h (eS m s) (fullM m):=by
 refine ⟨?_,fullM_wf hk x.wf⟩
 have X:=x.sl
 clear x
 obtain ⟨k,_,_,_,_,_,_,_,_,_,_,_,_,_,_,_,_,_,_,_,_,_,_⟩:=m
 rcases kinds hk with h|h|h|h|h|h|h|h|h|h|h|h|h<;>(have h:k=_:=h;subst h)
 ·exact ⟨X.a,.nil _ _,.nil _ _,.nil _ _,.nil _ _,.nil _ _⟩
 ·exact ⟨X.a,.nil _ _,.nil _ _,.nil _ _,.nil _ _,.nil _ _⟩
 ·exact ⟨X.a,.nil _ _,.nil _ _,.nil _ _,.nil _ _,.nil _ _⟩
 ·exact ⟨.nil _ _,X.b,X.c,.nil _ _,.nil _ _,.nil _ _⟩
 ·exact ⟨.nil _ _,X.b,X.c,X.d,.nil _ _,.nil _ _⟩
 ·exact ⟨.nil _ _,.nil _ _,.nil _ _,.nil _ _,.nil _ _,.nil _ _⟩
 ·exact ⟨.nil _ _,.nil _ _,.nil _ _,.nil _ _,.nil _ _,.nil _ _⟩
 ·exact ⟨.nil _ _,.nil _ _,.nil _ _,.nil _ _,X.e,X.f⟩
 ·exact ⟨.nil _ _,.nil _ _,.nil _ _,.nil _ _,.nil _ _,.nil _ _⟩
 ·exact ⟨.nil _ _,.nil _ _,.nil _ _,.nil _ _,X.e,X.f⟩
 ·exact ⟨.nil _ _,.nil _ _,.nil _ _,.nil _ _,.nil _ _,.nil _ _⟩
 ·exact ⟨.nil _ _,.nil _ _,.nil _ _,.nil _ _,.nil _ _,.nil _ _⟩
 ·exact ⟨.nil _ _,.nil _ _,.nil _ _,.nil _ _,.nil _ _,.nil _ _⟩
theorem bareS_off {s:cP} {m:aZ} {B:Nat→Prop} (hk:cq m.kind=true) (o:s.off B):(eS m s).off B:=by
 have key : ∀ v,v=s.a∨v=s.b∨v=s.c∨v=s.d∨v=s.e∨v=s.f∨v = .slice none 0 0 → ∀ b,slB v=some b → ¬B b:=fun v hv b hb=>by
  rcases hv with h|h|h|h|h|h|h
  ·exact o v (.inl h) b hb
  ·exact o v (.inr (.inl h)) b hb
  ·exact o v (.inr (.inr (.inl h))) b hb
  ·exact o v (.inr (.inr (.inr (.inl h)))) b hb
  ·exact o v (.inr (.inr (.inr (.inr (.inl h))))) b hb
  ·exact o v (.inr (.inr (.inr (.inr (.inr h))))) b hb
  ·rw [h] at hb;cases hb
 intro v hv
 refine key v ?_
 have ha:(eS m s).a=s.a∨(eS m s).a = .slice none 0 0:=by unfold eS bs3 bs4 bs5 bs6 bs7 bs8 bs9;repeat (first|exact .inl rfl|exact .inr rfl|split)
 have hb:(eS m s).b=s.b∨(eS m s).b = .slice none 0 0:=by unfold eS bs3 bs4 bs5 bs6 bs7 bs8 bs9;repeat (first|exact .inl rfl|exact .inr rfl|split)
 have hc:(eS m s).c=s.c∨(eS m s).c = .slice none 0 0:=by unfold eS bs3 bs4 bs5 bs6 bs7 bs8 bs9;repeat (first|exact .inl rfl|exact .inr rfl|split)
 have hd:(eS m s).d=s.d∨(eS m s).d = .slice none 0 0:=by unfold eS bs3 bs4 bs5 bs6 bs7 bs8 bs9;repeat (first|exact .inl rfl|exact .inr rfl|split)
 have he:(eS m s).e=s.e∨(eS m s).e = .slice none 0 0:=by unfold eS bs3 bs4 bs5 bs6 bs7 bs8 bs9;repeat (first|exact .inl rfl|exact .inr rfl|split)
 have hf:(eS m s).f=s.f∨(eS m s).f = .slice none 0 0:=by unfold eS bs3 bs4 bs5 bs6 bs7 bs8 bs9;repeat (first|exact .inl rfl|exact .inr rfl|split)
 rcases hv with rfl|rfl|rfl|rfl|rfl|rfl
 ·rcases ha with h|h<;>simp [h]
 ·rcases hb with h|h<;>simp [h]
 ·rcases hc with h|h<;>simp [h]
 ·rcases hd with h|h<;>simp [h]
 ·rcases he with h|h<;>simp [h]
 ·rcases hf with h|h<;>simp [h]
structure E60 (h0:ak) (k:Nat) (x:Nat→Value):Prop where
 x1:x 1=ptr h0.next 0
 x2:x 2=ptr (h0.next+1) 0
 x3:x 3=ptr (h0.next+2) 0
 x4:x 4 = .bool (decide (k≤3))
 x5:x 5 = .bool (k==4||k==5)
 x6:x 6 = .bool (k==5)
 x7:x 7 = .bool (decide (6≤k))
 x8:x 8 = .bool (k==8||k==10)
structure B60 (h0:ak) (m:aZ) (s:cP) (q:aZ) (sl:cP) (x:Nat→Value) (g:ak):Prop where
 e:E60 h0 m.kind x
 gb:g.get h0.next=some (m.d.cells s)
 gM:g.get (h0.next+2)=some (q.d.cells sl)
 gR:g.get (h0.next+1)=some Zl
 hm:ej g s m
 qw:q.Wf
 bm:Old h0 g
 so:s.off (fun b=>h0.next≤b)
section
variable {h0:ak} {m q:aZ} {s sl:cP} {x:Nat→Value} {g:ak}
theorem B60.env (B:B60 h0 m s q sl x g) {x':Nat→Value} (e:x' 1=x 1∧x' 2=x 2∧x' 3=x 3∧x' 4=x 4∧x' 5=x 5∧x' 6=x 6∧x' 7=x 7∧x' 8=x 8):B60 h0 m s q sl x' g:=by
 obtain ⟨e1,e2,e3,e4,e5,e6,e7,e8⟩:=e
 exact ⟨⟨e1.trans B.e.x1,e2.trans B.e.x2,e3.trans B.e.x3,e4.trans B.e.x4,e5.trans B.e.x5,e6.trans B.e.x6,e7.trans B.e.x7,e8.trans B.e.x8⟩,B.gb,B.gM,B.gR,B.hm,B.qw,B.bm,B.so⟩
theorem B60.wr (B:B60 h0 m s q sl x g) {g':ak} {q':aZ} {sl':cP} (k:Kept g g' (· = h0.next+2)) (gM:g'.get (h0.next+2)=some (q'.d.cells sl')) (qw:q'.Wf):B60 h0 m s q' sl' x g':=
 ⟨B.e,k.getE B.gb (by omega),gM,k.getE B.gR (by omega),B.hm.dV k (fun v hv b hb e=>B.so v hv b hb (by omega)),qw,B.bm.also k (fun d hd e=>by omega),B.so⟩
theorem B60.n0 (B:B60 h0 m s q sl x g):g.n0≤h0.next+2:=by rw [B.bm.n0];have:=h0.bg;omega
theorem B60.len (B:B60 h0 m s q sl x g):(q.d.cells sl).length=116:=cells_len (aZ.ok B.qw)
theorem B60.put (B:B60 h0 m s q sl x g) {o:Nat} {v:Value} {q':aZ} {sl':cP} (ho:o<116) (hc:v.cells = #[v]) (hv:v.oneCell'=true) (e:(q.d.cells sl).set o v=q'.d.cells sl') (qw:q'.Wf) :
  ∃ g',dH 1 (ptr (h0.next+2) o) v g=some (undef,g')∧B60 h0 m s q' sl' x g'∧Kept g g' (· = h0.next+2):=by
 obtain ⟨g',e1,k,g1,_,_⟩:=stored (o:=o) (v:=v) B.gM B.n0 (by rw [B.len];exact ho) hc hv
 rw [e] at g1
 exact ⟨g',e1,B.wr k g1 qw,k⟩
theorem B60.putN (B:B60 h0 m s q sl x g) {o n:Nat} {w:dA} {q':aZ} {sl':cP} (ho:o+n≤116) (hc:w.length=n) (hv:aS w=true) (e:bw (q.d.cells sl) o w=q'.d.cells sl') (qw:q'.Wf) :
  ∃ g',dH n (ptr (h0.next+2) o) (.agg w.toArray) g=some (undef,g')∧B60 h0 m s q' sl' x g'∧Kept g g' (· = h0.next+2):=by
 obtain ⟨g',e1,k,g1,_,_⟩:=stored_mid (o:=o) (n:=n) B.gM B.n0 (by rw [B.len];exact ho) hc hv
 rw [e] at g1
 exact ⟨g',e1,B.wr k g1 qw,k⟩
theorem B60.ld (B:B60 h0 m s q sl x g):MLd g h0.next s m:=bW B.hm B.gb
theorem l113_two {h h1:ak} {b:Nat} (y:ej h1 s m) (g:h.get b=some (m.d.cells s)):bP 2 (ptr b 113) h=some (.agg #[.int .i64 m.cg,s.f],h):=by
 have ok:=aZ.ok y.wf
 have c:=bJ y.sl.f
 refine fw g (A:=m.d.front s++(m.d.root++([s.d,.bool m.d.b7]++(m.d.obj++m.d.dv s)))) (B := [.int .i64 m.cg,s.f]) (C := [.int .i64 m.code]) ?_ ?_ rfl ?_
 ·unfold bD.cells
  simp only [List.append_assoc]
  rfl
 ·simp only [List.length_append,fC ok,ok.root.1,ok.obj.1]
  rfl
 ·exact eC (a := [.int .i64 m.cg]) rfl (noH_one c.1)
include g in
theorem s60_3 (B:B60 h0 m s q sl x g) : ∃ x' g',k60s3 CW (aX 82 x) g=k60s4 CW (aX 82 x') g'∧B60 h0 m s (bq3 m q) (bs3 m s sl) x' g':=by
 rw [t60s3_eq]
 unfold t60s3 bq3 bs3
 by_cases c:m.kind≤3
 ·rw [if_pos c]
  rw [if_pos c]
  have A:=B.ld
  have e4:=B.e.x4
  rw [decide_eq_true c] at e4
  obtain ⟨g1,w1,B1,k1⟩:=B.put (o:=3) (v := .int .u64 (m.seq:Int)) (q':={ q with seq:=m.seq }) (sl':=sl) (by decide) rfl rfl rfl { B.qw with seq:=B.hm.wf.seq }
  have A1:=B1.ld
  have ca:=bJ B.hm.sl.a
  obtain ⟨g2,w2,B2,k2⟩:=B1.put (o:=6) (v:=s.a) (q':={ q with seq:=m.seq,table:=m.table }) (sl':={ sl with a:=s.a }) (by decide) ca.2.2 ca.2.1 rfl { B1.qw with table:=B.hm.wf.table }
  have A2:=B2.ld
  have ck:=fK A1.l6 B.hm.sl.a.fa
  have q3:bin Tryz.prog .eql 24 (.int .u8 (m.kind:Int)) (.int .u8 3)=some (.bool ((m.kind:Int)==3)):=ay ..
  by_cases d:m.kind=3
  ·rw [if_pos d]
   rw [show ((m.kind:Int)==3)=true by rw [d];rfl] at q3
   obtain ⟨g3,w3,B3,k3⟩:=B2.put (o:=5) (v := .int .i64 m.target) (q':={ q with seq:=m.seq,table:=m.table,target:=m.target }) (sl':={ sl with a:=s.a }) (by decide) rfl rfl rfl { B2.qw with target:=B.hm.wf.target }
   simp -implicitDefEqProofs only [e4, B.e.x1, B.e.x3, A.l3, A.l6, w1, w2, ck, A2.l0, q3, A2.l5, w3, ah, aq, Bool.and_self, ao, Nat.zero_add]
   exact ⟨_,g3,rfl,B3.env ⟨rfl,rfl,rfl,rfl,rfl,rfl,rfl,rfl⟩⟩
  ·rw [if_neg d]
   rw [show ((m.kind:Int)==3)=false by simp;omega] at q3
   obtain ⟨g3,w3,B3,k3⟩:=B2.put (o:=4) (v := .int .i64 m.origin) (q':={ q with seq:=m.seq,table:=m.table,origin:=m.origin }) (sl':={ sl with a:=s.a }) (by decide) rfl rfl rfl { B2.qw with origin:=B.hm.wf.origin }
   simp -implicitDefEqProofs only [e4, B.e.x1, B.e.x3, A.l3, A.l6, w1, w2, ck, A2.l0, q3, A2.l4, w3, ah, aq, Bool.and_self, ao, Nat.zero_add]
   exact ⟨_,g3,rfl,B3.env ⟨rfl,rfl,rfl,rfl,rfl,rfl,rfl,rfl⟩⟩
 ·rw [if_neg c]
  rw [if_neg c]
  have e4:=B.e.x4
  rw [decide_eq_false c] at e4
  simp -implicitDefEqProofs only [e4, ah]
  exact ⟨_,g,rfl,B.env ⟨rfl,rfl,rfl,rfl,rfl,rfl,rfl,rfl⟩⟩
theorem s60_4 (B:B60 h0 m s q sl x g) : ∃ x' g',k60s4 CW (aX 82 x) g=k60s5 CW (aX 82 x') g'∧B60 h0 m s (bq4 m q) (bs4 m s sl) x' g':=by
 rw [t60s4_eq]
 unfold t60s4 bq4 bs4
 by_cases c:(m.kind==4||m.kind==5)=true
 ·rw [if_pos c]
  rw [if_pos c]
  have A:=B.ld
  have e4:=B.e.x5
  rw [c] at e4
  have ca:=bJ B.hm.sl.b
  have cb:=bJ B.hm.sl.c
  obtain ⟨g1,w1,B1,k1⟩:=B.put (o:=7) (v:=s.b) (q':={ q with low:=m.low }) (sl':={ sl with b:=s.b }) (by decide) ca.2.2 ca.2.1 rfl { B.qw with low:=B.hm.wf.low }
  have A1:=B1.ld
  obtain ⟨g2,w2,B2,k2⟩:=B1.put (o:=8) (v:=s.c) (q':={ q with low:=m.low,high:=m.high }) (sl':={ sl with b:=s.b,c:=s.c }) (by decide) cb.2.2 cb.2.1 rfl { B1.qw with high:=B.hm.wf.high }
  have ck:=fK A1.l8 B.hm.sl.c.fa
  simp -implicitDefEqProofs only [e4, B.e.x1, B.e.x3, A.l7, A.l8, w1, w2, ck, ah, aq, Bool.and_self, ao, Nat.zero_add]
  exact ⟨_,g2,rfl,B2.env ⟨rfl,rfl,rfl,rfl,rfl,rfl,rfl,rfl⟩⟩
 ·rw [if_neg c]
  rw [if_neg c]
  have e4:=B.e.x5
  rw [Bool.eq_false_iff.mpr c] at e4
  simp -implicitDefEqProofs only [e4, ah]
  exact ⟨_,g,rfl,B.env ⟨rfl,rfl,rfl,rfl,rfl,rfl,rfl,rfl⟩⟩
theorem s60_5 (B:B60 h0 m s q sl x g) : ∃ x' g',k60s5 CW (aX 82 x) g=k60s6 CW (aX 82 x') g'∧B60 h0 m s (bq5 m q) (bs5 m s sl) x' g':=by
 rw [t60s5_eq]
 unfold t60s5 bq5 bs5
 by_cases c:(m.kind==5)=true
 ·rw [if_pos c]
  rw [if_pos c]
  have A:=B.ld
  have e4:=B.e.x6
  rw [c] at e4
  have ca:=bJ B.hm.sl.d
  obtain ⟨g1,w1,B1,k1⟩:=B.put (o:=42) (v:=s.d) (q':={ q with bC:=m.bC }) (sl':={ sl with d:=s.d }) (by decide) ca.2.2 ca.2.1 (set42 (aZ.ok B.qw) _) { B.qw with bC:=B.hm.wf.bC }
  have A1:=B1.ld
  obtain ⟨g2,w2,B2,k2⟩:=B1.put (o:=43) (v := .bool m.b7) (q':={ q with bC:=m.bC,b7:=m.b7 }) (sl':={ sl with d:=s.d }) (by decide) rfl rfl (c43 B1.qw _) { B1.qw with }
  have ck:=fK A1.bU (show fa (.bool m.b7) (.bool m.b7)=true by cases m.b7<;>rfl)
  simp -implicitDefEqProofs only [e4, B.e.x1, B.e.x3, A.bF, A.bU, w1, w2, ck, ah, aq, Bool.and_self, ao, Nat.zero_add]
  exact ⟨_,g2,rfl,B2.env ⟨rfl,rfl,rfl,rfl,rfl,rfl,rfl,rfl⟩⟩
 ·rw [if_neg c]
  rw [if_neg c]
  have e4:=B.e.x6
  rw [Bool.eq_false_iff.mpr c] at e4
  simp -implicitDefEqProofs only [e4, ah]
  exact ⟨_,g,rfl,B.env ⟨rfl,rfl,rfl,rfl,rfl,rfl,rfl,rfl⟩⟩
theorem s60_6 (B:B60 h0 m s q sl x g) : ∃ x' g',k60s6 CW (aX 82 x) g=k60s7 CW (aX 82 x') g'∧B60 h0 m s (bq6 m q) (bs6 m s sl) x' g':=by
 rw [t60s6_eq]
 unfold t60s6 bq6 bs6
 have A:=B.ld
 have q3:bin Tryz.prog .eql 24 (.int .u8 (m.kind:Int)) (.int .u8 4)=some (.bool ((m.kind:Int)==4)):=ay ..
 by_cases c:m.kind=4
 ·rw [if_pos c]
  rw [show ((m.kind:Int)==4)=true by rw [c];rfl] at q3
  obtain ⟨g1,w1,B1,k1⟩:=B.put (o:=9) (v := .int .i64 m.count) (q':={ q with count:=m.count }) (sl':=sl) (by decide) rfl rfl rfl { B.qw with count:=B.hm.wf.count }
  have A1:=B1.ld
  obtain ⟨g2,w2,B2,k2⟩:=B1.putN (o:=10) (n:=32) (w:=bI m.root) (q':={ q with count:=m.count,root:=m.root }) (sl':=sl) (by decide) (b6 B.hm.wf.root) (u8s_ok _).2 (c10 B1.qw (B.hm.wf.root).1) { B1.qw with root:=B.hm.wf.root }
  have ck:=fK A1.ch (u8s_veq m.root)
  simp -implicitDefEqProofs only [B.e.x1, B.e.x3, A.l0, q3, A.l9, A.ch, w1, w2, ck, ah, aq, Bool.and_self, ao, Nat.zero_add]
  exact ⟨_,g2,rfl,B2.env ⟨rfl,rfl,rfl,rfl,rfl,rfl,rfl,rfl⟩⟩
 ·rw [if_neg c]
  rw [show ((m.kind:Int)==4)=false by simp;omega] at q3
  simp -implicitDefEqProofs only [B.e.x1, A.l0, q3, ah, aq, ao, Nat.zero_add]
  exact ⟨_,g,rfl,B.env ⟨rfl,rfl,rfl,rfl,rfl,rfl,rfl,rfl⟩⟩
theorem s60_7 (B:B60 h0 m s q sl x g) : ∃ x' g',k60s7 CW (aX 82 x) g=k60s8 CW (aX 82 x') g'∧B60 h0 m s (bq7 m q) (bs7 m s sl) x' g':=by
 rw [t60s7_eq]
 unfold t60s7 bq7 bs7
 by_cases c:6≤m.kind
 ·rw [if_pos c]
  have A:=B.ld
  have e4:=B.e.x7
  rw [decide_eq_true c] at e4
  obtain ⟨g2,w2,B2,k2⟩:=B.putN (o:=44) (n:=32) (w:=bI m.obj) (q':={ q with obj:=m.obj }) (sl':=sl) (by decide) (b6 B.hm.wf.obj) (u8s_ok _).2 (c44 B.qw (B.hm.wf.obj).1) { B.qw with obj:=B.hm.wf.obj }
  simp -implicitDefEqProofs only [e4, B.e.x1, B.e.x3, A.b8, w2, ah, aq, ao, Nat.zero_add]
  exact ⟨_,g2,rfl,B2.env ⟨rfl,rfl,rfl,rfl,rfl,rfl,rfl,rfl⟩⟩
 ·rw [if_neg c]
  have e4:=B.e.x7
  rw [decide_eq_false c] at e4
  simp -implicitDefEqProofs only [e4, ah]
  exact ⟨_,g,rfl,B.env ⟨rfl,rfl,rfl,rfl,rfl,rfl,rfl,rfl⟩⟩
theorem s60_8 (B:B60 h0 m s q sl x g) : ∃ x' g',k60s8 CW (aX 82 x) g=k60s9 CW (aX 82 x') g'∧B60 h0 m s (bq8 m q) (bs8 m s sl) x' g':=by
 rw [t60s8_eq]
 unfold t60s8 bq8 bs8
 by_cases c:(m.kind==8||m.kind==10)=true
 ·rw [if_pos c]
  rw [if_pos c]
  have A:=B.ld
  have e4:=B.e.x8
  rw [c] at e4
  have cm:=man_ok B.hm.sl (aZ.ok B.hm.wf)
  have cf:=bJ B.hm.sl.f
  obtain ⟨g1,w1,B1,k1⟩:=B.putN (o:=76) (n:=37) (w:=m.d.dv s) (q':={ q with gk:=m.gk,gn:=m.gn,gt:=m.gt,gs:=m.gs,cp:=m.cp,pieces:=m.pieces }) (sl':={ sl with e:=s.e }) (by decide) cm.2.2 cm.2.1 (c76 B.qw (x:=m.man') (v:=s.e) (B.hm.wf.cp).1) { B.qw with gk:=B.hm.wf.gk,gn:=B.hm.wf.gn,gt:=B.hm.wf.gt,gs:=B.hm.wf.gs,cp:=B.hm.wf.cp,pieces:=B.hm.wf.pieces }
  have A1:=B1.ld
  have p0:=l113_two B.hm B.gb
  have p1:=l113_two B1.hm B1.gb
  obtain ⟨g2,w2,B2,k2⟩:=B1.putN (o:=113) (n:=2) (w := [.int .i64 m.cg,s.f]) (q':={ q with gk:=m.gk,gn:=m.gn,gt:=m.gt,gs:=m.gs,cp:=m.cp,pieces:=m.pieces,cg:=m.cg,data:=m.data }) (sl':={ sl with e:=s.e,f:=s.f }) (by decide) rfl
   (eE (a := [.int .i64 m.cg]) rfl (by unfold aS;simp [cf.2.1])) (by
    rw [splice_two _ _ _ _ (by rw [B1.len];decide),c113 B1.qw]
    exact set114 (aZ.ok (m:={ q with gk:=m.gk,gn:=m.gn,gt:=m.gt,gs:=m.gs,cp:=m.cp,pieces:=m.pieces,cg:=m.cg }) { B1.qw with cg:=B.hm.wf.cg }) _) { B1.qw with cg:=B.hm.wf.cg,data:=B.hm.wf.data }
  have vq:fa (.agg #[.int .i64 m.cg,s.f]) (.agg #[.int .i64 m.cg,s.f])=true:=by
   have:=B.hm.sl.f.fa
   simp [fa,veqL,this]
  have ck:=fK p1 vq
  simp -implicitDefEqProofs only [e4, B.e.x1, B.e.x3, A.bR, p0, w1, w2, ck, ah, aq, Bool.and_self, ao, Nat.zero_add]
  exact ⟨_,g2,rfl,B2.env ⟨rfl,rfl,rfl,rfl,rfl,rfl,rfl,rfl⟩⟩
 ·rw [if_neg c]
  rw [if_neg c]
  have e4:=B.e.x8
  rw [Bool.eq_false_iff.mpr c] at e4
  simp -implicitDefEqProofs only [e4, ah]
  exact ⟨_,g,rfl,B.env ⟨rfl,rfl,rfl,rfl,rfl,rfl,rfl,rfl⟩⟩
theorem s60_9 (B:B60 h0 m s q sl x g) : ∃ x' g',k60s9 CW (aX 82 x) g=k60s10 CW (aX 82 x') g'∧B60 h0 m s (bq9 m q) (bs9 m s sl) x' g':=by
 rw [t60s9_eq]
 unfold t60s9 bq9 bs9
 have A:=B.ld
 have q3:bin Tryz.prog .eql 24 (.int .u8 (m.kind:Int)) (.int .u8 11)=some (.bool ((m.kind:Int)==11)):=ay ..
 by_cases c:m.kind=11
 ·rw [if_pos c]
  rw [show ((m.kind:Int)==11)=true by rw [c];rfl] at q3
  obtain ⟨g1,w1,B1,k1⟩:=B.put (o:=115) (v := .int .i64 m.code) (q':={ q with code:=m.code }) (sl':=sl) (by decide) rfl rfl (c115 B.qw _) { B.qw with code:=B.hm.wf.code }
  simp -implicitDefEqProofs only [B.e.x1, B.e.x3, A.l0, q3, A.aU, w1, ah, aq, ao, Nat.zero_add]
  exact ⟨_,g1,rfl,B1.env ⟨rfl,rfl,rfl,rfl,rfl,rfl,rfl,rfl⟩⟩
 ·rw [if_neg c]
  rw [show ((m.kind:Int)==11)=false by simp;omega] at q3
  simp -implicitDefEqProofs only [B.e.x1, A.l0, q3, ah, aq, ao, Nat.zero_add]
  exact ⟨_,g,rfl,B.env ⟨rfl,rfl,rfl,rfl,rfl,rfl,rfl,rfl⟩⟩
end
theorem results60:Tryz.f60.results.toList = [.cell 2 37]:=by kernel_rfl
set_option maxRecDepth 100000 in
theorem bld_head (m:aZ):fq Zl [(0,1,.int .u8 (m.kind:Int)),(1,1,.int .i64 m.from_),(2,1,.int .i64 m.eu)]=some (mv { aZ.z with kind:=m.kind,from_:=m.from_,eu:=m.eu } bV):=rfl
theorem is60:bB Tryz.prog 60 Tryz.f60:=⟨by kernel_rfl,by kernel_rfl,by kernel_rfl,by kernel_rfl⟩
set_option maxRecDepth 100000 in
theorem r60 {h:ak} {s:cP} {m:aZ} (hG:4≤h.n0) (x:ej h s m) (hk:cq m.kind=true) : ∃ s' h',CW 60 [mv m s] h=some (mv (fullM m) s',h')∧ej h' s' (fullM m)∧Old h h':=by
 have key : ∃ s' h',k60s0 CW (aX 82 (bs [mv m s])) h=some (mv (fullM m) s',h')∧ej h' s' (fullM m)∧Old h h':=by
  obtain ⟨h1,b1,o1,x1,A1,n1,-⟩:=dg x
  obtain ⟨h2,z2,o2,g2,n2⟩:=fresh Zl h1
  have z3:=newZ h2
  have x2:=x1.bm o2
  have A2:=bW x2 (Old.get o2 A1.g)
  have zw:({ aZ.z with kind:=m.kind,from_:=m.from_,eu:=m.eu }:aZ).Wf:={ aZ.z_wf with kind:=x.wf.kind,from_:=x.wf.from_,eu:=x.wf.eu }
  have zh:ej h2 bV { aZ.z with kind:=m.kind,from_:=m.from_,eu:=m.eu }:=⟨⟨.nil _ _,.nil _ _,.nil _ _,.nil _ _,.nil _ _,.nil _ _⟩,zw⟩
  obtain ⟨h3,e3,o3,g3,n3⟩:=var_m zh
  have bh:=bld_head m
  have O3:=o1.trans (o2.trans o3)
  have A3:=bW (x2.bm o3) (Old.get (o2.trans o3) A1.g)
  have e4:=r90 (h:=h3) (by rw [O3.n0];exact hG) hk
  have w1:h1.next=h.next+1:=n1
  have w2:h2.next=h.next+2:=by omega
  rw [w1] at z2 g2
  rw [w2] at z3 e3 g3
  have exm:aV (.tuple #[.bool (decide (m.kind≤3)),.bool (m.kind==4||m.kind==5),.bool (m.kind==5),.bool (decide (6≤m.kind)),.bool (m.kind==8||m.kind==10)]) 0=some (.bool (decide (m.kind≤3)))∧aV (.tuple #[.bool (decide (m.kind≤3)),.bool (m.kind==4||m.kind==5),.bool (m.kind==5),.bool (decide (6≤m.kind)),.bool (m.kind==8||m.kind==10)]) 1=some (.bool (m.kind==4||m.kind==5))∧aV (.tuple #[.bool (decide (m.kind≤3)),.bool (m.kind==4||m.kind==5),.bool (m.kind==5),.bool (decide (6≤m.kind)),.bool (m.kind==8||m.kind==10)]) 2=some (.bool (m.kind==5))∧aV (.tuple #[.bool (decide (m.kind≤3)),.bool (m.kind==4||m.kind==5),.bool (m.kind==5),.bool (decide (6≤m.kind)),.bool (m.kind==8||m.kind==10)]) 3=some (.bool (decide (6≤m.kind)))∧aV (.tuple #[.bool (decide (m.kind≤3)),.bool (m.kind==4||m.kind==5),.bool (m.kind==5),.bool (decide (6≤m.kind)),.bool (m.kind==8||m.kind==10)]) 4=some (.bool (m.kind==8||m.kind==10)):=⟨rfl,rfl,rfl,rfl,rfl⟩
  obtain ⟨x0,x1',x2',x3',x4'⟩:=exm
  have st2 : ∀ y,y 1=ptr h.next 0→y 2=ptr (h.next+1) 0→y 3=ptr (h.next+2) 0 → ∃ y',k60s2 CW (aX 82 y) h3=k60s3 CW (aX 82 y') h3∧E60 h m.kind y':=by
   intro y y1 y2 y3
   rw [t60s2_eq]
   unfold t60s2
   simp -implicitDefEqProofs only [y1, A3.l0, e4, x0, x1', x2', x3', x4', ah, aq, ao, Nat.zero_add]
   refine ⟨_,rfl,?_⟩
   exact ⟨y1,y2,y3,rfl,rfl,rfl,rfl,rfl⟩
  have st : ∃ y,k60s0 CW (aX 82 (bs [mv m s])) h=k60s3 CW (aX 82 y) h3∧E60 h m.kind y:=by
   rw [t60s0_eq]
   unfold t60s0
   rw [show bs [mv m s] 0=mv m s from rfl]
   simp -implicitDefEqProofs only [b1, z2, ah]
   rw [t60s1_eq]
   unfold t60s1
   rw [show up (bs [mv m s]) [(1,ptr h.next 0),(2,ptr (h.next+1) 0)] 1=ptr h.next 0 from rfl]
   simp -implicitDefEqProofs only [A2.l0, A2.l1, A2.l2, bh, z3, e3, ah, aq, ao, Nat.zero_add]
   exact st2 _ rfl rfl rfl
  obtain ⟨y3,e5,E⟩:=st
  have B3:B60 h m s { aZ.z with kind:=m.kind,from_:=m.from_,eu:=m.eu } bV y3 h3:=⟨E,Old.get (o2.trans o3) A1.g,g3,Old.get o3 g2,x2.bm o3,zw,O3,x.sl.lt (Nat.le_refl _)⟩
  obtain ⟨y4,g4,e6,B4⟩:=s60_3 B3
  obtain ⟨y5,g5,e7,B5⟩:=s60_4 B4
  obtain ⟨y6,g6,e8,B6⟩:=s60_5 B5
  obtain ⟨y7,g7,e9,B7⟩:=s60_6 B6
  obtain ⟨y8,g8,e10,B8⟩:=s60_7 B7
  obtain ⟨y9,g9,e11,B9⟩:=s60_8 B8
  obtain ⟨y10,g10,e12,B10⟩:=s60_9 B9
  rw [e5,e6,e7,e8,e9,e10,e11,e12]
  have B:B60 h m s (fullM m) (eS m s) y10 g10:=by
   rw [←bareQ_eq hk]
   exact B10
  have X:=bareS_has hk B.hm
  have lM:=(bW X B.gM).all
  obtain ⟨g11,f1,f2,f3,f4⟩:=msg_end (b:=h.next+1) B.bm (by omega) B.gR rfl X (fun v hv b hb e=>bareS_off hk B.so v hv b hb (by omega))
  rw [t60s10_eq]
  unfold t60s10
  simp -implicitDefEqProofs only [B.e.x3, B.e.x2, lM, f1, ah]
  rw [←B.e.x2] at f2
  exact ⟨eS m s,g11,res_cell results60 agg37 siz37 (show 2<82 by decide) (up y10 [_]) f2,f4,f3⟩
 obtain ⟨s',h',e,r⟩:=key
 exact ⟨s',h',aG is60 hG rfl ((t60_eq _ _ _).trans e),r⟩
end Go.Proofs.YtjghlcdidopcpaaGreatDoor

