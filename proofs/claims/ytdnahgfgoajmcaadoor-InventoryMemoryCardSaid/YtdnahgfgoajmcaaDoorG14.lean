/-
  A part of the proof, spaces and names shortened by a program (a claim may hold 1,500,000 bytes).
  Conditions: as each theorem states.
-/
import Derived.Test.YtdnahgfgoajmcaaDoorG13
namespace Go.Proofs.YtdnahgfgoajmcaaDoor
open Go Go.Abs
variable (nd:List Nat→List Nat→List Nat)
def treeG:Nat→List (List Nat)→List Nat
 | 0,_ => []
 |f+1,L=>if L.length≤1 then L.headD [] else nd (treeG f (L.take (halfN L.length))) (treeG f (L.drop (halfN L.length)))
def treeN (L:List (List Nat)):List Nat:=treeG nd L.length L
theorem treeG_s (f:Nat) (L:List (List Nat)):treeG nd (f+1) L=if L.length≤1 then L.headD [] else nd (treeG nd f (L.take (halfN L.length))) (treeG nd f (L.drop (halfN L.length))):=rfl
theorem treeG_fuel : ∀ (f g:Nat) (L:List (List Nat)),L.length≤f→L.length≤g→treeG nd f L=treeG nd g L
 | 0,0,L,_,_=>rfl
 | 0,g+1,L,h,_=>by
   have:L = []:=List.length_eq_zero_iff.1 (by omega)
   subst this
   rfl
 |f+1,0,L,_,h=>by
  have:L = []:=List.length_eq_zero_iff.1 (by omega)
  subst this
  rfl
 |f+1,g+1,L,h1,h2=>by
  rw [treeG_s nd,treeG_s nd]
  split
  ·rfl
  ·rename_i c
   have a1:=half_pos L.length
   have a2:=half_lt (n:=L.length) (by omega)
   rw [treeG_fuel f g (L.take (halfN L.length)) (by rw [List.length_take];omega) (by rw [List.length_take];omega),treeG_fuel f g (L.drop (halfN L.length)) (by rw [List.length_drop];omega) (by rw [List.length_drop];omega)]
theorem treeN_two {L:List (List Nat)} (h:2≤L.length):treeN nd L=nd (treeN nd (L.take (halfN L.length))) (treeN nd (L.drop (halfN L.length))):=by
 have a1:=half_pos L.length
 have a2:=half_lt h
 unfold treeN
 obtain ⟨f,hf⟩ : ∃ f,L.length=f+1:=⟨L.length-1,by omega⟩
 rw [show treeG nd L.length L=treeG nd (f+1) L by rw [hf],treeG_s nd,if_neg (by omega),treeG_fuel nd f (L.take (halfN L.length)).length _ (by rw [List.length_take];omega) (Nat.le_refl _),treeG_fuel nd f (L.drop (halfN L.length)).length _ (by rw [List.length_drop];omega) (Nat.le_refl _)]
def pairs:List (List Nat)→List (List Nat)
 |a::b::L=>nd a b::pairs L
 |L=>L
theorem pairs_c (a b:List Nat) (L:List (List Nat)):pairs nd (a::b::L)=nd a b::pairs nd L:=rfl
theorem pairs_len : ∀ (L:List (List Nat)),(pairs nd L).length=(L.length+1)/2
 | []=>rfl
 | [a]=>by rw [show pairs nd [a] = [a] from rfl,List.length_singleton]
 |a::b::L=>by
  rw [pairs_c nd,List.length_cons,pairs_len L,List.length_cons,List.length_cons]
  omega
theorem pairs_take : ∀ (k:Nat) (L:List (List Nat)),(pairs nd L).take k=pairs nd (L.take (2*k))
 | 0,L=>by rw [Nat.mul_zero,List.take_zero,List.take_zero];rfl
 |k+1,[]=>rfl
 |k+1,[a]=>by
  rw [show 2*(k+1)=(2*k+1)+1 by omega,List.take_succ_cons,List.take_nil,show pairs nd [a] = [a] from rfl,List.take_succ_cons,List.take_nil]
 |k+1,a::b::L=>by
  rw [pairs_c nd,List.take_succ_cons,pairs_take k L,show 2*(k+1)=(2*k+1)+1 by omega,List.take_succ_cons,List.take_succ_cons,pairs_c nd]
theorem pairs_drop : ∀ (k:Nat) (L:List (List Nat)),(pairs nd L).drop k=pairs nd (L.drop (2*k))
 | 0,L=>by rw [Nat.mul_zero,List.drop_zero,List.drop_zero]
 |k+1,[]=>by rw [List.drop_nil];rfl
 |k+1,[a]=>by
  rw [show 2*(k+1)=(2*k+1)+1 by omega,List.drop_succ_cons,List.drop_nil]
  rw [show pairs nd [a] = [a] from rfl,List.drop_succ_cons,List.drop_nil]
  rfl
 |k+1,a::b::L=>by
  rw [pairs_c nd,List.drop_succ_cons,pairs_drop k L,show 2*(k+1)=(2*k+1)+1 by omega,List.drop_succ_cons,List.drop_succ_cons]
theorem treeN_pairs : ∀ (n:Nat) (L:List (List Nat)),L.length=n→n≤1048576→treeN nd (pairs nd L)=treeN nd L:=by
 intro n
 induction n using Nat.strongRecOn with
 |_ n ih=>
  intro L hL hn
  match L,hL with
  | [],_=>rfl
  | [a],_=>rfl
  | [a,b],_=>rfl
  |a::b::c::L,hL=>
   have h3:3≤n:=by rw [List.length_cons,List.length_cons,List.length_cons] at hL;omega
   generalize a::b::c::L=M at *
   have ht:=half_two h3 hn
   have hp:=half_pos ((n+1)/2)
   have hl:=half_lt (n:=n) (by omega)
   have pl:=pairs_len nd M
   rw [hL] at pl
   rw [treeN_two nd (L:=pairs nd M) (by omega),treeN_two nd (L:=M) (by omega),pl,pairs_take nd,pairs_drop nd,hL,ht]
   rw [ih (M.take (2*halfN ((n+1)/2))).length (by rw [List.length_take];omega) _ rfl (by rw [List.length_take];omega),ih (M.drop (2*halfN ((n+1)/2))).length (by rw [List.length_drop];omega) _ rfl (by rw [List.length_drop];omega)]
def push:Nat→List Nat→List (List Nat)→Nat→List (List Nat)
 | 0,d,T,_=>d::T
 |f+1,d,T,i=>if i%2=1 then (match T with|x::T=>push f (nd x d) T (i/2) | [] => [d]) else d::T
theorem push_s (f:Nat) (d:List Nat) (T:List (List Nat)) (i:Nat):push nd (f+1) d T i=if i%2=1 then (match T with|x::T=>push nd f (nd x d) T (i/2) | [] => [d]) else d::T:=rfl
theorem push_z (d:List Nat) (T:List (List Nat)) (i:Nat):push nd 0 d T i=d::T:=rfl
theorem push_fuel : ∀ (f g:Nat) (d:List Nat) (T:List (List Nat)) (i:Nat),i≤f→i≤g→push nd f d T i=push nd g d T i
 | 0,0,d,T,i,_,_=>rfl
 | 0,g+1,d,T,i,h,_=>by rw [push_z nd,push_s nd,if_neg (by omega)]
 |f+1,0,d,T,i,_,h=>by rw [push_z nd,push_s nd,if_neg (by omega)]
 |f+1,g+1,d,T,i,h1,h2=>by
  rw [push_s nd,push_s nd]
  split
  ·cases T with
   |nil=>rfl
   |cons x T=>exact push_fuel f g (nd x d) T (i/2) (by omega) (by omega)
  ·rfl
def stk:List (List Nat)→List (List Nat)→Nat→List (List Nat)
 | [],T,_=>T
 |d::L,T,i=>stk L (push nd i d T i) (i+1)
theorem stk_s (d:List Nat) (L T:List (List Nat)) (i:Nat):stk nd (d::L) T i=stk nd L (push nd i d T i) (i+1):=rfl
theorem stk_z (T:List (List Nat)) (i:Nat):stk nd [] T i=T:=rfl
theorem stk_app : ∀ (L M T:List (List Nat)) (i:Nat),stk nd (L++M) T i=stk nd M (stk nd L T i) (i+L.length)
 | [],M,T,i=>rfl
 |d::L,M,T,i=>by
  rw [List.cons_append,stk_s nd,stk_s nd,stk_app L M,List.length_cons,Nat.add_assoc,Nat.add_comm 1]
def finS:List (List Nat)→List Nat
 | [] => []
 |d::T=>T.foldl (fun d x=>nd x d) d
theorem fin_push : ∀ (f:Nat) (d:List Nat) (T:List (List Nat)) (i:Nat),finS nd (push nd f d T i)=finS nd (d::T)
 | 0,d,T,i=>rfl
 |f+1,d,T,i=>by
  rw [push_s nd]
  split
  ·cases T with
   |nil=>rfl
   |cons x T=>
    show finS nd (push nd f (nd x d) T (i/2))=_
    rw [fin_push f]
    rfl
  ·rfl
theorem pairs_app : ∀ (k:Nat) (L M:List (List Nat)),L.length=2*k→pairs nd (L++M)=pairs nd L++pairs nd M
 | 0,L,M,h=>by
   have:L = []:=List.length_eq_zero_iff.1 (by omega)
   subst this
   rfl
 |k+1,L,M,h=>by
  match L,h with
  | [],h=>rw [List.length_nil] at h;omega
  | [a],h=>rw [List.length_cons,List.length_nil] at h;omega
  |a::b::L,h=>
   rw [List.cons_append,List.cons_append,pairs_c nd,pairs_c nd,pairs_app k L M (by rw [List.length_cons,List.length_cons] at h;omega),List.cons_append]
theorem stk_even : ∀ (k:Nat) (L:List (List Nat)),L.length=2*k→stk nd L [] 0=stk nd (pairs nd L) [] 0
 | 0,L,h=>by
   have:L = []:=List.length_eq_zero_iff.1 (by omega)
   subst this
   rfl
 |k+1,L,h=>by
  have e1:L=L.take (2*k)++L.drop (2*k):=(List.take_append_drop _ _).symm
  have l1:(L.take (2*k)).length=2*k:=by rw [List.length_take];omega
  have l2:(L.drop (2*k)).length=2:=by rw [List.length_drop];omega
  generalize L.take (2*k)=A at *
  generalize L.drop (2*k)=B at *
  subst e1
  match B,l2 with
  | [a,b],_=>
    have ih:=stk_even k A l1
    have pl:=pairs_len nd A
    rw [l1] at pl
    have e2:push nd (2*k) a (stk nd A [] 0) (2*k)=a::stk nd A [] 0:=by
     cases k with
     |zero=>rfl
     |succ k=>rw [show 2*(k+1)=(2*k+1)+1 by omega,push_s nd,if_neg (by omega)]
    rw [stk_app nd,l1,pairs_app nd k A _ l1,stk_app nd,pl,←ih,Nat.zero_add,stk_s nd,stk_s nd,stk_z nd,e2,push_s nd,if_pos (by omega)]
    show push nd (2*k) (nd a b) (stk nd A [] 0) ((2*k+1)/2)=stk nd [nd a b] _ _
    rw [stk_s nd,stk_z nd,Nat.zero_add,show (2*k+1)/2=k by omega]
    exact push_fuel nd _ _ _ _ _ (by omega) (by omega)
theorem fin_stk : ∀ (n:Nat) (L:List (List Nat)),L.length=n→1≤n→n≤1048576→finS nd (stk nd L [] 0)=treeN nd L:=by
 intro n
 induction n using Nat.strongRecOn with
 |_ n ih=>
  intro L hL h1 hn
  by_cases c1:n=1
  ·subst c1
   match L,hL with
   | [d],_=>rfl
  ·have pl:=pairs_len nd L
   rw [hL] at pl
   have e:=ih ((n+1)/2) (by omega) (pairs nd L) pl (by omega) (by omega)
   rw [treeN_pairs nd n L hL hn] at e
   rw [←e]
   by_cases c2:n%2=0
   ·rw [stk_even nd (n/2) L (by omega)]
   ·have e1:L=L.take (2*(n/2))++L.drop (2*(n/2)):=(List.take_append_drop _ _).symm
    have l1:(L.take (2*(n/2))).length=2*(n/2):=by rw [List.length_take];omega
    have l2:(L.drop (2*(n/2))).length=1:=by rw [List.length_drop];omega
    generalize L.take (2*(n/2))=A at *
    generalize L.drop (2*(n/2))=B at *
    subst e1
    match B,l2 with
    | [a],_=>
      rw [pairs_app nd (n/2) A _ l1,stk_app nd,stk_app nd,stk_even nd (n/2) A l1]
      show finS nd (stk nd [a] _ _)=finS nd (stk nd [a] _ _)
      rw [stk_s nd,stk_z nd,stk_s nd,stk_z nd,fin_push nd,fin_push nd]
theorem stk_snoc (L:List (List Nat)) (d:List Nat):stk nd (L ++ [d]) [] 0=push nd L.length d (stk nd L [] 0) L.length:=by
 rw [stk_app nd,stk_s nd,stk_z nd,Nat.zero_add]
def pcG:Nat→Nat→Nat
 | 0,_=>0
 |f+1,i=>i%2+pcG f (i/2)
def pc (i:Nat):Nat:=pcG i i
theorem pcG_fuel : ∀ (f g i:Nat),i≤f→i≤g→pcG f i=pcG g i
 | 0,0,i,_,_=>rfl
 | 0,g+1,i,h,_=>by
   have:i=0:=by omega
   subst this
   rw [pcG,show pcG (g+1) 0=0+pcG g 0 from rfl,←pcG_fuel 0 g 0 (Nat.le_refl _) (Nat.zero_le _)]
   rfl
 |f+1,0,i,_,h=>by
  have:i=0:=by omega
  subst this
  rw [show pcG (f+1) 0=0+pcG f 0 from rfl,pcG_fuel f 0 0 (Nat.zero_le _) (Nat.le_refl _)]
  rfl
 |f+1,g+1,i,h1,h2=>by rw [show pcG (f+1) i=i%2+pcG f (i/2) from rfl,show pcG (g+1) i=i%2+pcG g (i/2) from rfl,pcG_fuel f g (i/2) (by omega) (by omega)]
theorem pc_step (i:Nat):pc i=i%2+pc (i/2):=by
 cases i with
 |zero=>rfl
 |succ i=>
  unfold pc
  rw [show pcG (i+1) (i+1)=(i+1)%2+pcG i ((i+1)/2) from rfl,pcG_fuel i ((i+1)/2) _ (by omega) (Nat.le_refl _)]
theorem push_len : ∀ (f:Nat) (d:List Nat) (T:List (List Nat)) (i:Nat),i≤f→T.length=pc i→(push nd f d T i).length=pc (i+1)
 | 0,d,T,i,h,hT=>by
   have:i=0:=by omega
   subst this
   rw [push_z nd,List.length_cons,hT]
   rfl
 |f+1,d,T,i,h,hT=>by
  rw [push_s nd]
  rw [pc_step] at hT
  by_cases c:i%2=1
  ·rw [if_pos c]
   cases T with
   |nil=>rw [List.length_nil] at hT;omega
   |cons x T=>
    rw [List.length_cons] at hT
    have:=push_len f (nd x d) T (i/2) (by omega) (by omega)
    show (push nd f (nd x d) T (i/2)).length=_
    rw [this,pc_step (i+1),show (i+1)/2=i/2+1 by omega,show (i+1)%2=0 by omega,Nat.zero_add]
  ·rw [if_neg c,List.length_cons,hT,pc_step (i+1),show (i+1)/2=i/2 by omega,show (i+1)%2=1 by omega]
   omega
theorem stk_len : ∀ (L T:List (List Nat)) (i:Nat),T.length=pc i→(stk nd L T i).length=pc (i+L.length)
 | [],T,i,h=>h
 |d::L,T,i,h=>by
  rw [stk_s nd,stk_len L _ _ (push_len nd i d T i (Nat.le_refl _) h),List.length_cons,Nat.add_assoc,Nat.add_comm 1]
theorem push_ok (hnd : ∀ a b,fo (nd a b)) : ∀ (f:Nat) {d:List Nat} {T:List (List Nat)} (i:Nat),fo d→(∀ t∈T,fo t) → ∀ t∈push nd f d T i,fo t
 | 0,d,T,i,hd,hT=>fun t ht=>by
   rw [push_z nd] at ht
   rcases List.mem_cons.1 ht with rfl|ht
   ·exact hd
   ·exact hT t ht
 |f+1,d,T,i,hd,hT=>by
  rw [push_s nd]
  split
  ·cases T with
   |nil=>exact fun t ht=>by rw [List.mem_singleton.1 ht];exact hd
   |cons x T=>exact push_ok hnd f (i/2) (hnd _ _) fun t ht=>hT t (List.mem_cons_of_mem _ ht)
  ·intro t ht
   rcases List.mem_cons.1 ht with rfl|ht
   ·exact hd
   ·exact hT t ht
end Go.Proofs.YtdnahgfgoajmcaaDoor

namespace Go.Proofs.YtdnahgfgoajmcaaDoor
open Go Go.Abs
structure Stk (h:ab) (N:Nat) (v:Value) (T:List (List Nat)):Prop where
 dig : ∀ t∈T,fo t
 form:(T = []∧(v = .slice none 0 0 ∨ ∃ b,v = .slice (some ⟨b,0,none⟩) 0 0)) ∨ ∃ b m X,v = .slice (some ⟨b,0,some 32⟩) T.length m∧N≤b∧T.length≤m∧h.get b=some (eC T++X)∧X.length=(m-T.length)*32∧Abs.bj X=true∧az X=true
def stB:Value→Option Nat
 | .slice (some ⟨b,_,some _⟩) _ _=>some b
 |_=>none
theorem Stk.nil (h:ab) (N:Nat):Stk h N (.slice none 0 0) []:=⟨fun _ h=>(by cases h),.inl ⟨rfl,.inl rfl⟩⟩
theorem Stk.lt {h:ab} {N:Nat} {v:Value} {T:List (List Nat)} (x:Stk h N v T) {b:Nat} (e:stB v=some b):N≤b∧b<h.next:=by
 rcases x.form with ⟨_,rfl|⟨b',rfl⟩⟩|⟨b',m,X,rfl,h1,h2,h3,_⟩
 ·cases e
 ·cases e
 ·cases e
  exact ⟨h1,h.aF h3⟩
theorem Stk.eW {h h':ab} {N:Nat} {v:Value} {T:List (List Nat)} (x:Stk h N v T) {B:Nat→Prop} (k:Kept h h' B) (hB : ∀ b,stB v=some b → ¬B b):Stk h' N v T:=by
 refine ⟨x.dig,?_⟩
 rcases x.form with f|⟨b',m,X,rfl,h1,h2,h3,h4⟩
 ·exact .inl f
 ·exact .inr ⟨b',m,X,rfl,h1,h2,k.dv h3 (hB b' rfl),h4⟩
theorem Stk.bM {h h':ab} {N:Nat} {v:Value} {T:List (List Nat)} (x:Stk h N v T) (k:Old h h'):Stk h' N v T:=x.eW k fun _ _ h=>h
theorem Stk.len {h:ab} {N:Nat} {v:Value} {T:List (List Nat)} (x:Stk h N v T):cx v=some (ai T.length):=by
 rcases x.form with ⟨rfl,rfl|⟨b',rfl⟩⟩|⟨b',m,X,rfl,_⟩<;>rfl
theorem Stk.pr {h:ab} {N:Nat} {v:Value} {T:List (List Nat)} (x:Stk h N v T):PR h v T∧gS v:=by
 rcases x.form with ⟨rfl,rfl|⟨b',rfl⟩⟩|⟨b',m,X,rfl,h1,h2,h3,h4,h5,h6⟩
 ·exact ⟨⟨⟨_,_,rfl⟩,x.dig,fun j hj=>absurd hj (Nat.not_lt_zero j)⟩,⟨_,_,_,rfl,Nat.le_refl _,fun h=>absurd h (Nat.lt_irrefl 0)⟩⟩
 ·exact ⟨⟨⟨_,_,rfl⟩,x.dig,fun j hj=>absurd hj (Nat.not_lt_zero j)⟩,⟨_,_,_,rfl,Nat.le_refl _,fun h=>absurd h (Nat.lt_irrefl 0)⟩⟩
 ·refine ⟨⟨⟨_,_,rfl⟩,x.dig,fun j hj => ?_⟩,⟨_,_,_,rfl,h2,fun _ b o s e=>by cases e;rfl⟩⟩
  have hl:=digsC_len x.dig
  have hm:=mul_le (z:=32) hj
  have e:((eC T++X).drop (j*32)).take 32=aZ (T.getD j []):=by
   rw [List.drop_append_of_le_length (by omega),List.take_append_of_le_length (by rw [List.length_drop];omega),digsC_get x.dig hj]
  refine ⟨b',0+j*32,?_,h.aF h3,fun g hg => ?_⟩
  ·unfold cd ai
   simp only
   rw [if_pos (by omega),Int.toNat_natCast]
  ·have dp:fo (T.getD j []):=x.dig _ (by
    rw [List.getD_eq_getElem?_getD,List.getElem?_eq_getElem hj]
    exact List.getElem_mem hj)
   have:=ldN_at (o:=0+j*32) (n:=32) (hg.trans h3) (by rw [List.length_append];omega) (by rw [Nat.zero_add,e];exact (bg dp).2.1)
   rw [Nat.zero_add,e] at this
   rw [Nat.zero_add]
   exact this
theorem digsC_app (A B:List (List Nat)):eC (A++B)=eC A++eC B:=by
 unfold eC
 rw [List.flatMap_append]
theorem digsC_one (d:List Nat):eC [d]=aZ d:=by
 unfold eC
 rw [List.flatMap_cons,List.flatMap_nil,List.append_nil]
theorem Stk.pop {h:ab} {N:Nat} {v:Value} {T:List (List Nat)} {d:List Nat} (x:Stk h N v (T ++ [d])) : ∃ v',slR 32 v none (some (ai T.length)) none=some v'∧Stk h N v' T∧stB v'=stB v:=by
 have lT:(T ++ [d]).length=T.length+1:=by rw [List.length_append,List.length_singleton]
 have hd:=x.dig
 have dd:=(bg (hd d (List.mem_append_right _ List.mem_cons_self)))
 rcases x.form with ⟨h0,_⟩|⟨b,m,X,rfl,h1,h2,h3,h4,h5,h6⟩
 ·rw [h0] at lT
  cases lT
 ·rw [lT] at h2 h4 ⊢
  have hb:cg (T.length+1) m none (some (ai T.length)) none=some (0,T.length,m):=by
   have a1:bD m m none=some m:=rfl
   have a2:bD (T.length+1) m (some (ai T.length))=some T.length:=by
    unfold bD ai
    simp only
    rw [if_pos (by omega)]
    rfl
   unfold cg
   rw [a1]
   simp only [a2]
   rfl
  refine ⟨.slice (some ⟨b,0,some 32⟩) T.length m,?_,⟨fun t ht=>hd t (List.mem_append_left _ ht),.inr ⟨b,m,aZ d++X,rfl,h1,by omega,?_,?_,?_,?_⟩⟩,rfl⟩
  ·unfold slR eU
   simp only [hb]
   rw [if_pos ⟨True.intro,by decide⟩,Nat.zero_mul,Nat.add_zero,Nat.sub_zero,Nat.sub_zero]
  ·rw [h3,digsC_app,digsC_one,List.append_assoc]
  ·rw [List.length_append,dd.1,h4]
   omega
  ·unfold Abs.bj at *
   rw [List.all_append,dd.2.1,h5];rfl
  ·unfold az at *
   rw [List.all_append,dd.2.2,h6];rfl
theorem first_one {h:ab} {c:Nat} {d:List Nat} (hd:fo d) (hc:h.get c=some (aZ d)):aS 32 1 (.slice (some ⟨c,0,none⟩) 1 1) h=some (aZ d):=by
 have dd:=bg hd
 have e:((aZ d).drop 0).take (1*32)=aZ d:=by rw [List.drop_zero,List.take_of_length_le (by rw [dd.1];decide)]
 unfold aS
 simp only
 rw [if_neg (by decide),hc]
 simp only
 rw [e,if_pos ⟨by rw [dd.1];decide,dd.2.1⟩]
theorem Stk.push {h:ab} {N:Nat} {v:Value} {T:List (List Nat)} {d:List Nat} {c:Nat} (x:Stk h N v T) (h0:h.n0≤N) (hN:N≤h.next) (hd:fo d) (hl:T.length≤1000000) (hc:h.get c=some (aZ d)) :
  ∃ v' h',aO 32 32 v (.slice (some ⟨c,0,none⟩) 1 1) h=some (v',h')∧Stk h' N v' (T ++ [d])∧Kept h h' (fun b=>stB v=some b)∧(stB v'=stB v∨stB v'=some h.next):=by
 have dd:=bg hd
 have hf:=first_one hd hc
 have dT : ∀ t∈T ++ [d],fo t:=fun t ht=>by
  rcases List.mem_append.1 ht with h|h
  ·exact x.dig t h
  ·rw [List.mem_singleton.1 h];exact hd
 have lT:(T ++ [d]).length=T.length+1:=by rw [List.length_append,List.length_singleton]
 have lc:=digsC_len x.dig
 have hcond : ∀ n:Nat,n≤1000000→(!(az (aZ d)) || !(decide ((n+1)*32≤140737488355328)) || !(decide (n+1≤4611686018427387904))||decide ((aZ d).length≠1*32))=false:=by
  intro n hn
  rw [dd.2.2,decide_eq_true (by omega:(n+1)*32≤140737488355328),decide_eq_true (by omega:n+1≤4611686018427387904),decide_eq_false (by rw [dd.1];decide)]
  rfl
 have new : ∀ g:ab,N≤g.next→T = []→Stk (g.alloc (aZ d)) N (.slice (some ⟨g.next,0,some 32⟩) 1 1) (T ++ [d]):=fun g hg e=>by
  subst e
  refine ⟨dT,.inr ⟨g.next,1,[],rfl,hg,Nat.le_refl _,?_,rfl,rfl,rfl⟩⟩
  rw [ab.aH,if_pos rfl,List.append_nil,List.nil_append,digsC_one]
 rcases x.form with ⟨rfl,rfl|⟨b,rfl⟩⟩|⟨b,m,X,rfl,h1,h2,h3,h4,h5,h6⟩
 ·refine ⟨.slice (some ⟨h.next,0,some 32⟩) 1 1,h.alloc (aZ d),?_,new h hN rfl,Kept.alloc _ _ _,.inr rfl⟩
  unfold aO
  simp only [lenA,hf]
  rw [if_neg (by rw [hcond 0 (by decide)];decide),if_neg (by decide),if_pos trivial]
 ·refine ⟨.slice (some ⟨h.next,0,some 32⟩) 1 1,h.alloc (aZ d),?_,new h hN rfl,Kept.alloc _ _ _,.inr rfl⟩
  have f0:aS 32 0 (.slice (some ⟨b,0,none⟩) 0 0) h=some []:=rfl
  unfold aO
  simp only [lenA,hf,f0]
  rw [if_neg (by rw [hcond 0 (by decide)];decide),if_neg (by decide),if_neg (by decide)]
  rfl
 ·have hbn:=h.aF h3
  by_cases hm:T.length+1≤m
  ·have st:stL b (0+T.length*32) (aZ d) h=some (h.set b (eC T++(aZ d++X.drop 32))):=by
    unfold stL
    rw [h3]
    simp only
    rw [if_pos (by
     rw [dd.2.2,decide_eq_true (show h.n0≤b by omega),decide_eq_true (by rw [List.length_append,dd.1,lc,h4];omega)]
     rfl)]
    congr 2
    have eX:X=X.take 32++X.drop 32:=(List.take_append_drop _ _).symm
    conv=>lhs;rw [eX]
    exact splice_app (n:=32) (by rw [lc,Nat.zero_add]) (by rw [List.length_take,h4];omega) dd.1
   refine ⟨.slice (some ⟨b,0,some 32⟩) (T.length+1) m,h.set b (eC T++(aZ d++X.drop 32)),?_,⟨dT,.inr ⟨b,m,X.drop 32,by rw [lT],h1,by rw [lT];exact hm,?_,?_,?_,?_⟩⟩,Kept.set (by omega) h3 (.inr rfl),.inl rfl⟩
   ·unfold aO
    simp only [lenA,hf]
    rw [if_neg (by rw [hcond T.length hl];decide),if_pos hm,if_neg (by decide),st]
    rfl
   ·rw [ab.dm (by omega) h3,digsC_app,digsC_one,List.append_assoc]
   ·rw [List.length_drop,h4,lT]
    omega
   ·unfold Abs.bj at *
    rw [List.all_eq_true] at *
    exact fun y hy=>h5 y (List.mem_of_mem_drop hy)
   ·unfold az at *
    rw [List.all_eq_true] at *
    exact fun y hy=>h6 y (List.mem_of_mem_drop hy)
  ·have hmE:m=T.length:=by omega
   subst hmE
   have hX:X = []:=List.length_eq_zero_iff.1 (by omega)
   subst hX
   rw [List.append_nil] at h3
   have hf2:aS 32 T.length (.slice (some ⟨b,0,some 32⟩) T.length T.length) h=some (eC T):=by
    unfold aS
    simp only
    by_cases hz:T.length*32=0
    ·rw [if_pos hz]
     have:T = []:=List.length_eq_zero_iff.1 (by omega)
     rw [this]
     rfl
    ·rw [if_neg hz,h3]
     simp only
     have e:((eC T).drop 0).take (T.length*32)=eC T:=by rw [List.drop_zero,List.take_of_length_le (by omega)]
     rw [e,if_pos ⟨by omega,(digsC_ok x.dig).1⟩]
   have hk : ∀ y,y<h.next→y≠b→((h.kill b).alloc (eC T++aZ d)).ay y=h.ay y:=by
    intro y hy hne
    rw [ab.bQ,if_neg (by rw [ab.eZ];omega)]
    exact getB_kill (by omega) hbn hne
   refine ⟨.slice (some ⟨h.next,0,some 32⟩) (T.length+1) (T.length+1),(h.kill b).alloc (eC T++aZ d),?_,⟨dT,.inr ⟨h.next,T.length+1,[],by rw [lT],hN,by rw [lT];exact Nat.le_refl _,?_,by rw [lT,Nat.sub_self];rfl,rfl,rfl⟩⟩,⟨rfl,by simp,fun y hy hB=>hk y hy (fun e=>hB (by rw [e];rfl))⟩,.inr rfl⟩
   ·unfold aO
    simp only [lenA,hf]
    rw [if_neg (by rw [hcond T.length hl];decide),if_neg (by omega)]
    simp only [hf2]
    rw [if_neg (by rw [lc];simp),if_pos (by simp [h3];omega)]
   ·rw [ab.aH,if_pos (by rw [ab.eZ]),List.append_nil,digsC_app,digsC_one]
end Go.Proofs.YtdnahgfgoajmcaaDoor

namespace Go.Proofs.YtdnahgfgoajmcaaDoor
open Go Go.Abs
attribute [local congr] aj
theorem is106:cj Tryd.prog 106 Tryd.f106:=⟨by kernel_rfl,by kernel_rfl,by kernel_rfl,by kernel_rfl⟩
theorem is107:cj Tryd.prog 107 Tryd.f107:=⟨by kernel_rfl,by kernel_rfl,by kernel_rfl,by kernel_rfl⟩
theorem is135:cj Tryd.prog 135 Tryd.f135:=⟨by kernel_rfl,by kernel_rfl,by kernel_rfl,by kernel_rfl⟩
theorem is54:cj Tryd.prog 54 Tryd.f54:=⟨by kernel_rfl,by kernel_rfl,by kernel_rfl,by kernel_rfl⟩
theorem results106:Tryd.f106.results.toList = [.cell 2 35]:=by kernel_rfl
theorem results54:Tryd.f54.results.toList = [.cell 2 35]:=by kernel_rfl
theorem results135:Tryd.f135.results.toList = []:=by kernel_rfl
def nilD:List Nat:=(HD0.wr []).sum
theorem nilD_ok:fo nilD:=sum_d32 _
set_option maxRecDepth 100000 in
theorem r106 {h:ab} (hG:4≤h.n0) (hz:h.get 3=some bB) : ∃ h',CW 106 [.slice none 0 0] h=some (.agg (aZ nilD).toArray,h')∧Old h h':=by
 obtain ⟨h1,z1,o1,g1,n1⟩:=fresh (List.replicate 32 (.int .u8 0)) h
 obtain ⟨h2,e2,o2,g2,n2⟩:=r121 (h:=h1) (by rw [o1.n0];exact hG)
 have O2:=o1.trans o2
 obtain ⟨h3,e3,k3,g3,w3,m3⟩:=r122 (h:=h2) (by rw [O2.n0];exact hG) (Old.get O2 hz) (p:=h1.next) HD0_ok g2 (by rw [O2.n0];have:=h.ax;have:=o1.next;omega) (a:=none) (n:=0) (c:=0) (l := []) rfl (fun h=>absurd h (by decide)) (fun y hy=>by cases hy) (by decide)
 have O3:Old h h3:=Old.bN O2 k3 (by have:=o1.next;omega)
 obtain ⟨h4,e4,o4⟩:=r123 (h:=h3) (by rw [O3.n0];exact hG) (Old.get O3 hz) (p:=h1.next) w3 g3 (by rw [m3];decide)
 have O4:=O3.trans o4
 have e4:CW 123 [ptr h1.next 0] h3=some (.agg (aZ nilD).toArray,h4):=e4
 have dc:=bg nilD_ok
 have q2:h4.get h.next=some (List.replicate 32 (.int .u8 0)):=Old.get o4 (Kept.dv k3 (o2.get g1) (by omega))
 obtain ⟨h5,e5,k5,g5,_,_⟩:=bG (n:=32) (k':=aZ nilD) q2 (by rw [O4.n0];exact h.ax) rfl dc.1 dc.2.2
 have L5:=bZ g5 dc.1 dc.2.1
 refine ⟨h5,aG is106 hG rfl ((t106_eq _ _ _).trans ?_),Old.bN O4 k5 (Nat.le_refl _)⟩
 unfold t106
 simp -implicitDefEqProofs only [z1,e2,e3,e4,e5,ad,af]
 exact gf results106 agg35 size32 (show 2<10 by decide) _ L5
theorem r107 {h:ab} (hG:4≤h.n0) {a:Option Addr} {n c:Nat} : ∃ h',CW 107 [.slice a n c] h=some (.func (.func 135) #[] #[ptr h.next 0],h')∧Old h h'∧h'.get h.next=some [.slice a n c]∧h'.next=h.next+1:=by
 have b:box (.slice a n c) h=some (ptr h.next 0,h.alloc [.slice a n c]):=rfl
 refine ⟨h.alloc [.slice a n c],aG is107 hG rfl ((t107_eq _ _ _).trans ?_),Kept.alloc _ _ _,by rw [ab.aH,if_pos rfl],ab.dU ..⟩
 unfold t107
 simp -implicitDefEqProofs only [b,ad,af]
theorem geq3 (j:Nat):bin Tryd.prog .geq 3 (.int .i64 ((j:Int)-1)) (.int .i64 0)=some (.bool (decide (1≤j))):=by
 rw [cJ]
 congr 2
 rw [decide_eq_decide]
 omega
set_option maxRecDepth 100000 in
theorem r135 {h:ab} (hG:4≤h.n0) {L c:Nat} {w:Value} {T:List (List Nat)} (hT:T.length≤1000000) (Inv:Nat→ab→Prop)
  (hread : ∀ j g,Inv j g→ld1 (ptr c 0) g=some (w,g)∧PR g w T)
  (hstep : ∀ j g,j<T.length→Inv (j+1) g → ∃ g',CW (yid Tryd.prog L) [ai j,.agg (aZ (T.getD j [])).toArray] g=some (.bool true,g')∧Inv j g') (h0:Inv T.length h) :
  ∃ h',CW 135 [.func (.yield L) #[] #[],ptr c 0] h=some (.tuple #[],h')∧Inv 0 h':=by
 have key : ∃ o:Out,t135 CW (.func (.yield L) #[] #[]) (ptr c 0) h=o ∧ ∃ h',o=some (.tuple #[],h')∧Inv 0 h':=by
  refine ⟨_,rfl,?_⟩
  unfold t135
  obtain ⟨l0,P0⟩:=hread _ _ h0
  have hll:=PR.len P0
  have sb:bin Tryd.prog .sub 3 (ai T.length) (.int .i64 1)=some (.int .i64 ((T.length:Int)-1)):=by
   unfold ai
   rw [bin_sub,wrap_i64 (by omega) (by omega)]
  simp -implicitDefEqProofs only [l0,hll,sb,ad,af]
  refine bJ (n:=19) (fin:=fun ex y g=>ex = .exit 0∧Inv 0 g) (Q:=fun o:Out => ∃ h',o=some (.tuple #[],h')∧Inv 0 h')
   (bH (t135l135_10_eq CW) (Inv:=fun k y g=>k≤T.length∧y 0 = .func (.yield L) #[] #[]∧y 1=ptr c 0∧y 3 = .int .i64 ((k:Int)-1)∧Inv k g) ?_ T.length (by have:rounds=18446744073709551616:=rfl;omega) ⟨Nat.le_refl _,rfl,rfl,rfl,h0⟩) ?_
  ·rintro k y g ⟨hk,y0,y1,y3,hi⟩
   unfold t135l135_10
   have q:=geq3 k
   simp -implicitDefEqProofs only [y0,y1,y3,q,ad,af]
   obtain ⟨l1,P1⟩:=hread _ _ hi
   by_cases hk1:1≤k
   ·obtain ⟨j,rfl⟩ : ∃ j,k=j+1:=⟨k-1,by omega⟩
    obtain ⟨b,o,ix,hb,lp⟩:=P1.2.2 j (by omega)
    have lg:=lp g rfl
    obtain ⟨g',e',hi'⟩:=hstep j g (by omega) hi
    have ej:(((j+1:Nat):Int)-1)=(j:Int):=by omega
    have ix':cd 32 w (.int .i64 (j:Int))=some (ptr b o):=ix
    have e'':callA Tryd.prog CW (.func (.yield L) #[] #[]) [.int .i64 (j:Int),.agg (aZ (T.getD j [])).toArray] g=some (.bool true,g'):=e'
    have sb2:bin Tryd.prog .sub 3 (.int .i64 (j:Int)) (.int .i64 1)=some (.int .i64 ((j:Int)-1)):=by
     rw [bin_sub,wrap_i64 (by omega) (by omega)]
    simp -implicitDefEqProofs only [decide_eq_true hk1,ej,l1,ix',lg,e'',sb2,bY,Bool.not_true,ad,af]
    exact eS.next j (by omega) ⟨by omega,y0,y1,rfl,hi'⟩
   ·have hk0:k=0:=by omega
    subst hk0
    simp -implicitDefEqProofs only [decide_eq_false hk1,ad,af]
    exact eS.out 0 ⟨rfl,hi⟩
  ·rintro ex z g ⟨rfl,hi⟩
   simp -implicitDefEqProofs only [bn,b135_1,if_true]
   rw [results135]
   exact ⟨g,rfl,hi⟩
 obtain ⟨o9,e,h',e',q⟩:=key
 exact ⟨h',aG is135 hG rfl ((t135_eq _ _ _ _).trans (e.trans e')),q⟩
end Go.Proofs.YtdnahgfgoajmcaaDoor

namespace Go.Proofs.YtdnahgfgoajmcaaDoor
open Go Go.Abs
attribute [local congr] aj
set_option maxRecDepth 100000 in
theorem tre1 {h:ab} (hG:4≤h.n0) (hz:h.get 3=some bB) {N d i:Nat} {D:List Nat} {vs:Value} {S:List (List Nat)} (hN:h.n0≤N) (hNn:N≤d) (hS:Stk h N vs S.reverse) (hD:fo D) (hd:h.get d=some (aZ D)) (hds : ∀ b,stB vs=some b → ¬b=d) (hi:i≤1048576) (hp:S.length=pc i)
  {q15 q16 q17 q2:Value} {x:Nat→Value} (x3:x 3=vs) (x6:x 6=ptr d 0) (x7:x 7=ai i) (x15:x 15=q15) (x16:x 16=q16) (x17:x 17=q17) (x2:x 2=q2) :
  Fin 66 (fun ex y g=>ex = .exit 2∧y 6=ptr d 0∧y 15=q15∧y 16=q16∧y 17=q17∧y 2=q2∧Kept h g (· = d) ∧ ∃ D' S' vs',y 3=vs'∧Stk g N vs' S'.reverse∧stB vs'=stB vs∧fo D'∧g.get d=some (aZ D')∧push cM i D S i=D'::S') (iter (au Tryd.prog CW (partOf Tryd.f54 [1,1,1,0,1,0,0,1,1,0,0,1,1,0,1,0,0])) rounds (aN 66 x) h):=by
 refine bH (t54l54_1110100110011010_eq CW) (Inv:=fun k y g => ∃ i' D' S' vs',i'≤k∧i'≤1048576∧y 3=vs'∧y 6=ptr d 0∧y 7=ai i'∧y 15=q15∧y 16=q16∧y 17=q17∧y 2=q2∧Kept h g (· = d)∧Stk g N vs' S'.reverse∧stB vs'=stB vs∧fo D'∧g.get d=some (aZ D')∧S'.length=pc i'∧push cM k D' S' i'=push cM i D S i) ?_ i (by have:rounds=18446744073709551616:=rfl;omega) ⟨i,D,S,vs,Nat.le_refl _,hi,x3,x6,x7,x15,x16,x17,x2,Kept.refl _ _,hS,rfl,hD,hd,hp,rfl⟩
 rintro k y g ⟨i',D',S',vs',hk,hi',y3,y6,y7,y15,y16,y17,y2,K,sk,hb,dD,gd,hp',hpu⟩
 have e1:bin Tryd.prog .eql 3 (ai (i'%2)) (.int .i64 1)=some (.bool (decide (i'%2=1))):=eql1 _
 unfold dB
 simp -implicitDefEqProofs only [y7,and1 hi',e1,ad,af]
 by_cases c:i'%2=1
 ·rw [pc_step,c] at hp'
  cases k with
  |zero=>omega
  |succ k=>
   cases S' with
   |nil=>rw [List.length_nil] at hp';omega
   |cons p S'=>
    rw [List.length_cons] at hp'
    have hp'':S'.length=pc (i'/2):=by omega
    rw [List.reverse_cons] at sk
    obtain ⟨P,gs⟩:=sk.pr
    obtain ⟨b,o,ix,dp,lp⟩:=PR.last P
    obtain ⟨v2,e2,sk2,hb2⟩:=sk.pop
    have hll:=sk.len
    rw [List.length_append,List.length_singleton] at hll
    have Lp:=lp g (Kept.refl _ _)
    have cD:=bg dD
    have L6:=bZ gd cD.1 cD.2.1
    have hSl:S'.reverse.length≤1000000:=by
     rw [List.length_reverse]
     have hpc : ∀ (f j:Nat),pcG f j≤f:=by
      intro f
      induction f with
      |zero=>intro j;exact Nat.le_refl _
      |succ f ih=>
       intro j
       have:=ih (j/2)
       show j%2+pcG f (j/2)≤f+1
       omega
     have:=hpc (i'/2) (i'/2)
     unfold pc at hp''
     omega
    have sb:bin Tryd.prog .sub 3 (ai (S'.reverse.length+1)) (.int .i64 1)=some (ai S'.reverse.length):=sub_n1 (by omega) (by omega)
    have G2:4≤g.n0:=by rw [K.n0];exact hG
    have hdn:g.n0≤d:=by rw [K.n0];omega
    have Z2:g.get 3=some bB:=Kept.dv K hz (by omega)
    obtain ⟨g4,e4,o4⟩:=r70 (h:=g) G2 Z2 dp dD
    have dn:=bg (nodeD_ok p D')
    obtain ⟨g5,e5,k5,g5',_,n5⟩:=bG (n:=32) (k':=aZ (cM p D')) (Old.get o4 gd) (by rw [o4.n0];exact hdn) cD.1 dn.1 dn.2.2
    have sh:bin Tryd.prog .shr 3 (ai i') (.int .u64 1)=some (ai (i'/2)):=shr1
    simp -implicitDefEqProofs only [decide_eq_true c,y3,y6,y7,hll,sb,ix,Lp,L6,e4,e5,e2,sh,ad,af]
    refine eS.next k (by omega) ⟨i'/2,cM p D',S',v2,by omega,by omega,rfl,y6,rfl,y15,y16,y17,y2,(K.trans (o4.mono (fun _ _ h=>h.elim))).trans k5,?_,hb2.trans hb,nodeD_ok _ _,g5',hp'',?_⟩
    ·refine (sk2.bM o4).eW k5 fun b' hb' => ?_
     rw [hb2,hb] at hb'
     exact hds b' hb'
    ·rw [push_s,if_pos c] at hpu
     exact hpu
 ·simp -implicitDefEqProofs only [decide_eq_false c,ad,af]
  refine eS.out 2 ⟨rfl,y6,y15,y16,y17,y2,K,D',S',vs',y3,sk,hb,dD,gd,?_⟩
  rw [←hpu]
  cases k with
  |zero=>rfl
  |succ k=>rw [push_s,if_neg c]
end Go.Proofs.YtdnahgfgoajmcaaDoor

namespace Go.Proofs.YtdnahgfgoajmcaaDoor
open Go Go.Abs
attribute [local congr] aj
theorem bsl_dig (g:ab) {D:List Nat} (dD:fo D):du 32 (.agg (List.replicate 32 (.int .u8 0)).toArray) 1 [(0,.agg (aZ D).toArray)] g=some (.slice (some ⟨g.next,0,none⟩) 1 1,g.alloc (aZ D)):=by
 have c:=bg dD
 have e1:(Value.agg (aZ D).toArray).cells=(aZ D).toArray:=rfl
 have hz:db (Value.agg (List.replicate 32 (.int .u8 0)).toArray).cells.toList 1=List.replicate 32 (.int .u8 0):=rfl
 have e2:cG (List.replicate 32 (.int .u8 0)) [(0*32,32,Value.agg (aZ D).toArray)]=some (aZ D):=by
  unfold cG
  rw [e1,if_pos (by simp [c.1])]
  unfold cG
  congr 1
  unfold a6
  rw [Nat.zero_mul,List.take_zero,List.nil_append,Nat.zero_add,List.drop_eq_nil_of_le (by rw [List.length_replicate];simp [c.1]),List.append_nil]
 have hc:(flatAll (Value.agg (List.replicate 32 (.int .u8 0)).toArray).cells.toList&&(Value.agg (List.replicate 32 (.int .u8 0)).toArray).cells.size=32&&0<32&&1*32≤16777216&&az ([((0:Nat),Value.agg (aZ D).toArray)].flatMap fun x=>x.2.cells.toList))=true:=by
  rw [List.flatMap_cons,List.flatMap_nil,List.append_nil,e1,c.2.2]
  rfl
 unfold du
 rw [if_pos (by simpa using hc),hz,List.map_cons,List.map_nil]
 simp only [e2]
theorem pc_le (i:Nat):pc i≤i:=by
 have hpc : ∀ (f j:Nat),pcG f j≤f:=by
  intro f
  induction f with
  |zero=>intro j;exact Nat.le_refl _
  |succ f ih=>
   intro j
   have:=ih (j/2)
   show j%2+pcG f (j/2)≤f+1
   omega
 exact hpc i i
def lvs (L:List ak):List (List Nat):=L.map leafD
theorem lvs_take {L:List ak} {i:Nat} (hi:i<L.length):lvs (L.take (i+1))=lvs (L.take i) ++ [leafD (L.getD i ak.z)]:=by
 unfold lvs
 rw [List.take_add_one,List.map_append,List.getElem?_eq_getElem hi,List.getD_eq_getElem?_getD,List.getElem?_eq_getElem hi]
 rfl
set_option maxRecDepth 100000 in
theorem tre2 {h:ab} (hG:4≤h.n0) (hz:h.get 3=some bB) {N d2:Nat} {v:Value} {L:List ak} (hN:N=h.next) (hv:RSl h v L) (hval : ∀ r∈L,fA r=true) (hl:L.length≤1000000)
  {x:Nat→Value} (x3:x 3 = .slice none 0 0) (x15:x 15=v) (x16:x 16=ai L.length) (x17:x 17=ai 0) (x2:x 2=ptr d2 0) :
  Fin 66 (fun ex y g=>ex = .exit 0∧y 2=ptr d2 0∧Old h g∧Stk g N (y 3) (stk cM (lvs L) [] 0).reverse) (iter (au Tryd.prog CW (partOf Tryd.f54 [1,1,1,0,1,0,0])) rounds (aN 66 x) h):=by
 refine bH (t54l54_111010_eq CW) (Inv:=fun k y g => ∃ i,i+k=L.length∧y 15=v∧y 16=ai L.length∧y 17=ai i∧y 2=ptr d2 0∧Old h g∧Stk g N (y 3) (stk cM (lvs (L.take i)) [] 0).reverse) ?_ L.length (by have:rounds=18446744073709551616:=rfl;omega) ⟨0,by omega,x15,x16,x17,x2,Kept.refl _ _,by rw [x3];exact Stk.nil h N⟩
 rintro k y g ⟨i,hik,y15,y16,y17,y2,O,sk⟩
 unfold t54l54_111010
 simp -implicitDefEqProofs only [y16,y17,lss3,ad,af]
 by_cases hi:i<L.length
 ·obtain ⟨b,o,ix,wr,mr,lp⟩:=hv.at hi
  have vr:=hval _ mr
  have htk:=lvs_take hi
  have hli:(lvs (L.take i)).length=i:=by unfold lvs;rw [List.length_map,List.length_take];omega
  have hsl:=stk_len cM (lvs (L.take i)) [] 0 rfl
  rw [hli,Nat.zero_add] at hsl
  generalize hr:L.getD i ak.z=r at *
  generalize hSS:stk cM (lvs (L.take i)) [] 0=S at *
  have L1:=lp g O
  have cr:=bm wr
  obtain ⟨g1,z1,o1,q1,n1⟩:=fresh (recC ak.z) g
  obtain ⟨g2,e2,k2,q2,_,n2⟩:=bG (n:=39) (k':=recC r) q1 (by rw [o1.n0];exact g.ax) rfl cr.1 cr.2.2
  have o2:Old g g2:=Old.bN o1 k2 (Nat.le_refl _)
  have L2:=bZ q2 cr.1 cr.2.1
  have O2:=O.trans o2
  obtain ⟨g3,e3,o3⟩:=r69 (h:=g2) (by rw [O2.n0];exact hG) (Old.get O2 hz) wr vr
  have O3:=O2.trans o3
  obtain ⟨g4,z4,o4,q4,n4⟩:=fresh (List.replicate 32 (.int .u8 0)) g3
  have dl:=bg (leafD_ok r)
  obtain ⟨g5,e5,k5,q5,_,n5⟩:=bG (n:=32) (k':=aZ (leafD r)) q4 (by rw [o4.n0];exact g3.ax) rfl dl.1 dl.2.2
  have o5:Old g3 g5:=Old.bN o4 k5 (Nat.le_refl _)
  have O5:=O3.trans o5
  have sk5:Stk g5 N (y 3) S.reverse:=((sk.bM o2).bM o3).bM o5
  have hNlt:N≤g3.next:=by have:=O3.next;omega
  have z1:fS [(.int .u8 0),(.int .u8 0),(.int .u8 0),(.int .u8 0),(.int .u8 0),(.int .u8 0),(.int .u8 0),(.int .u8 0),(.int .u8 0),(.int .u8 0),(.int .u8 0),(.int .u8 0),(.int .u8 0),(.int .u8 0),(.int .u8 0),(.int .u8 0),(.int .u8 0),(.int .u8 0),(.int .u8 0),(.int .u8 0),(.int .u8 0),(.int .u8 0),(.int .u8 0),(.int .u8 0),(.int .u8 0),(.int .u8 0),(.int .u8 0),(.int .u8 0),(.int .u8 0),(.int .u8 0),(.int .u8 0),(.int .u8 0),(.int .u8 0),(.int .i64 0),(.int .u64 0),(.int .u64 0),(.bool false),(.int .i64 0),(.int .i64 0)] g=some (ptr g.next 0,g1):=z1
  simp -implicitDefEqProofs only [decide_eq_true hi,y15,ix,L1,z1,e2,L2,e3,z4,e5,ad,af]
  refine bJ (n:=66) (Q:=fun o=>eS 66 _ _ k o) (tre1 (h:=g5) (by rw [O5.n0];exact hG) (Old.get O5 hz) (N:=N) (d:=g3.next) (i:=i) (S:=S) (vs:=y 3) (q15:=v) (q16:=ai L.length) (q17:=ai i) (q2:=ptr d2 0) (by rw [O5.n0];have:=h.ax;omega) hNlt sk5 (leafD_ok r) q5 (fun b' hb'=>by
   have:=(sk.lt hb').2
   have:=O3.next
   have:=o2.next
   have:=o3.next
   omega) (by omega) hsl rfl rfl rfl y15 y16 y17 y2) ?_
  rintro _ z g6 ⟨rfl,z6,z15,z16,z17,z2,K6,D',S',vs',z3,sk6,hb6,dD,gd,hpu⟩
  simp -implicitDefEqProofs only [bn,b54_20,if_true,t54k54_18_eq]
  unfold t54k54_18
  have O6:Old h g6:=Old.bN O5 K6 (by omega)
  have cD:=bg dD
  have L6:=bZ gd cD.1 cD.2.1
  have b7:du 32 (.agg (List.replicate 32 (.int .u8 0)).toArray) 1 [(0,.agg (aZ D').toArray)] g6=some (.slice (some ⟨g6.next,0,none⟩) 1 1,g6.alloc (aZ D')):=bsl_dig g6 dD
  have o7:Old g6 (g6.alloc (aZ D')):=Kept.alloc _ _ _
  have q7:(g6.alloc (aZ D')).get g6.next=some (aZ D'):=by rw [ab.aH,if_pos rfl]
  have hS'l:S'.reverse.length≤1000000:=by
   have:=push_len cM i (leafD r) S i (Nat.le_refl _) hsl
   rw [hpu,List.length_cons] at this
   have hpc:=pc_le (i+1)
   rw [List.length_reverse]
   omega
  obtain ⟨v8,g8,e8,sk8,k8,hb8⟩:=(sk6.bM o7).push (c:=g6.next) (by rw [o7.n0,O6.n0];have:=h.ax;omega) (by have:=O6.next;have:=o7.next;omega) dD hS'l q7
  have O8:Old h g8:=(O6.trans o7).also k8 (fun b' hb' hs=>by
   have:=((sk6.bM o7).lt hs).1
   omega)
  simp -implicitDefEqProofs only [z3,z6,L6,b7,e8,ad,af,t54k54_14_eq]
  unfold t54k54_14
  have a17:bin Tryd.prog .add 3 (ai i) (.int .i64 1)=some (ai (i+1)):=ff (by omega)
  have z17':up z [(3,v8),(43,vs'),(44,.agg (aZ D').toArray),(45,.slice (some ⟨g6.next,0,none⟩) 1 1),(46,v8)] 17=ai i:=z17
  simp -implicitDefEqProofs only [z17',a17,ad,af]
  refine eS.next (k-1) (by omega) ⟨i+1,by omega,z15,z16,rfl,z2,O8,?_⟩
  have e9:(stk cM (lvs (L.take (i+1))) [] 0).reverse=S'.reverse ++ [D']:=by
   rw [htk,stk_snoc,hSS,hli,hpu,List.reverse_cons]
  rw [e9]
  exact sk8
 ·have:i=L.length:=by omega
  subst this
  simp -implicitDefEqProofs only [decide_eq_false hi,ad,af]
  rw [List.take_length] at sk
  exact eS.out 0 ⟨rfl,y2,O,sk⟩
end Go.Proofs.YtdnahgfgoajmcaaDoor

namespace Go.Proofs.YtdnahgfgoajmcaaDoor
open Go Go.Abs
attribute [local congr] aj
theorem rng54:partOf Tryd.f54 [1,1,1,1,1,0,1,0] = .rangeFunc (.tmp 59) #[60,61] (rgA (partOf Tryd.f54 [1,1,1,1,1,0,1,0])) (rgB (partOf Tryd.f54 [1,1,1,1,1,0,1,0])):=by kernel_rfl
theorem rng54a:codeOk Tryd.prog (rgA (partOf Tryd.f54 [1,1,1,1,1,0,1,0]))=true:=by kernel_rfl
theorem rng54b:codeOk Tryd.prog (rgB (partOf Tryd.f54 [1,1,1,1,1,0,1,0]))=true:=by kernel_rfl
theorem body135:hasBody Tryd.prog 135=true:=by kernel_rfl
theorem take_rev {T:List (List Nat)} {j:Nat} (hj:j<T.length):(T.take (j+1)).reverse=T.getD j []::(T.take j).reverse:=by
 rw [List.take_add_one,List.getElem?_eq_getElem hj,List.getD_eq_getElem?_getD,List.getElem?_eq_getElem hj]
 simp
set_option maxRecDepth 100000 in
theorem tre3 {h:ab} (hG:4≤h.n0) (hz:h.get 3=some bB) {d c:Nat} {w:Value} {T:List (List Nat)} {D:List Nat} {x:Nat→Value} (x8:x 8=ptr d 0) (x59:x 59 = .func (.func 135) #[] #[ptr c 0])
  (hw:PR h w T) (hww:isHole w=false) (hT:T.length≤1000000) (hwd : ∀ j b o,j<T.length→cd 32 w (ai j)=some (ptr b o) → ¬b=d) (hc:h.get c=some [w]) (hcd : ¬c=d) (hd:h.get d=some (aZ D)) (hD:fo D) (hd0:h.n0≤d) (hd3 : ¬3=d) :
  ∃ h',au Tryd.prog CW (partOf Tryd.f54 [1,1,1,1,1,0,1,0]) (aN 66 x) h=some (.normal,aN 66 x,h')∧Kept h h' (· = d)∧h'.get d=some (aZ (finS cM (D::T.reverse))):=by
 have hdn:=h.aF hd
 have hcn:=h.aF hc
 generalize hA:rgA (partOf Tryd.f54 [1,1,1,1,1,0,1,0])=ca at *
 generalize hB:rgB (partOf Tryd.f54 [1,1,1,1,1,0,1,0])=cb at *
 have L0:=LpR.new h (aN 66 x) [60,61] ca cb
 have k0:Old h (h.aP (.obj (.loop .ready none (aN 66 x) [60,61] ca cb))):=Kept.dC _ _ _
 have n0:(h.aP (.obj (.loop .ready none (aN 66 x) [60,61] ca cb))).next=h.next+1:=rfl
 have hk : ∀ g,Kept (h.aP (.obj (.loop .ready none (aN 66 x) [60,61] ca cb))) g (fun b=>b=d∨b=h.next)→Kept h g (fun b=>b=d∨b=h.next):=fun g k=>(k0.mono (fun _ _ h=>h.elim)).trans k
 generalize hh0:h.aP (.obj (.loop .ready none (aN 66 x) [60,61] ca cb))=h0 at *
 obtain ⟨h2,e2,K2,R2,g2,_⟩:=r135 (h:=h0) (by rw [k0.n0];exact hG) (L:=h.next) (c:=c) (w:=w) (T:=T) hT
  (fun j g=>Kept h g (fun b=>b=d∨b=h.next)∧LpR g h.next (aN 66 x) [60,61] ca cb∧h0.next≤g.next ∧ ∃ D',g.get d=some (aZ D')∧fo D'∧(T.take j).reverse.foldl (fun d x=>cM x d) D'=T.reverse.foldl (fun d x=>cM x d) D)
  (fun j g ⟨K,_,_,_⟩=>by
   refine ⟨?_,hw.1,hw.2.1,fun j hj => ?_⟩
   ·exact ba (K.dv hc (fun q=>by rcases q with q|q<;>omega)) (by rfl) hww
   ·obtain ⟨b,o,h1,h2,h3⟩:=hw.2.2 j hj
    have hne:=hwd j b o hj h1
    have hb:g.get b=h.get b:=Kept.get K b h2 (fun q=>by rcases q with q|q<;>omega)
    exact ⟨b,o,h1,Nat.lt_of_lt_of_le h2 K.next,fun g' e=>h3 g' (e.trans hb)⟩)
  (fun j g hj ⟨K,R,hn,D',gd,dD,hf⟩=>by
   have G:4≤g.n0:=by rw [K.n0];exact hG
   have hp:fo (T.getD j []):=hw.2.1 _ (by
    rw [List.getD_eq_getElem?_getD,List.getElem?_eq_getElem hj]
    exact List.getElem_mem hj)
   rw [take_rev hj,List.foldl_cons] at hf
   generalize T.getD j []=p at *
   have cp:=bg hp
   have cD:=bg dD
   obtain ⟨g3,z3,o3,g3',n3⟩:=fresh (List.replicate 32 (.int .u8 0)) g
   obtain ⟨g4,e4,k4,g4',_,n4⟩:=bG (n:=32) (k':=aZ p) g3' (by rw [o3.n0];exact g.ax) rfl cp.1 cp.2.2
   have o4:Old g g4:=Old.bN o3 k4 (Nat.le_refl _)
   have ha:au Tryd.prog CW ca (dQ (aN 66 x) ([60,61].zip [ai j,.agg (aZ p).toArray])) g=some (.normal,aN 66 (up (up (up x [(60,ai j)]) [(61,.agg (aZ p).toArray)]) [(10,ptr g.next 0)]),g4):=by
    show au Tryd.prog CW ca (((aN 66 x).set 60 (ai j)).set 61 (.agg (aZ p).toArray)) g=_
    rw [mkF_set,mkF_set,←hA,t54l54_11111010a_eq]
    unfold t54l54_11111010a
    have y61:up (up x [(60,ai j)]) [(61,.agg (aZ p).toArray)] 61 = .agg (aZ p).toArray:=rfl
    simp -implicitDefEqProofs only [y61,z3,e4,ad,af]
   have R4:LpR g4 h.next (aN 66 x) [60,61] ca cb:=R.eW o4 (fun h=>h)
   have R4':=R4
   unfold LpR at R4'
   have kS:Kept g4 (g4.aX h.next (.loop .busy none (aN 66 x) [60,61] ca cb)) (· = h.next):=Kept.aX R4' rfl
   have gS : ∀ b,(g4.aX h.next (.loop .busy none (aN 66 x) [60,61] ca cb)).get b=g4.get b:=fun b=>ab.get_setO R4' _ b
   have nS:(g4.aX h.next (.loop .busy none (aN 66 x) [60,61] ca cb)).next=g4.next:=rfl
   generalize hg5:g4.aX h.next (.loop .busy none (aN 66 x) [60,61] ca cb)=g5 at *
   have G5:4≤g5.n0:=by rw [kS.n0,o4.n0];exact G
   have q10:g5.get g.next=some (aZ p):=(gS _).trans g4'
   have q8:g5.get d=some (aZ D'):=(gS _).trans (Old.get o4 gd)
   have Z5:g5.get 3=some bB:=(gS _).trans (Old.get o4 (K.dv hz (fun q=>by
    have:=h.aF hz
    rcases q with q|q<;>omega)))
   have l10:=bZ q10 cp.1 cp.2.1
   have l8:=bZ q8 cD.1 cD.2.1
   obtain ⟨g6,e6,o6⟩:=r70 (h:=g5) G5 Z5 hp dD
   have dn:=bg (nodeD_ok p D')
   obtain ⟨g7,e7,k7,g7',_,n7⟩:=bG (n:=32) (k':=aZ (cM p D')) (Old.get o6 q8) (by rw [o6.n0,kS.n0,o4.n0,K.n0];exact hd0) cD.1 dn.1 dn.2.2
   have hb:au Tryd.prog CW cb (aN 66 (up (up (up x [(60,ai j)]) [(61,.agg (aZ p).toArray)]) [(10,ptr g.next 0)])) g5=some (.normal,aN 66 (up (up (up (up x [(60,ai j)]) [(61,.agg (aZ p).toArray)]) [(10,ptr g.next 0)]) [(62,.agg (aZ p).toArray),(63,.agg (aZ D').toArray),(64,.agg (aZ (cM p D')).toArray)]),g7):=by
    rw [←hB,t54l54_11111010b_eq]
    unfold t54l54_11111010b
    have y10:up (up (up x [(60,ai j)]) [(61,.agg (aZ p).toArray)]) [(10,ptr g.next 0)] 10=ptr g.next 0:=rfl
    have y8:up (up (up x [(60,ai j)]) [(61,.agg (aZ p).toArray)]) [(10,ptr g.next 0)] 8=ptr d 0:=x8
    simp -implicitDefEqProofs only [y10,y8,l10,l8,e6,e7,ad,af]
   have k57:Kept g5 g7 (· = d):=(o6.mono (fun _ _ h=>h.elim)).trans k7
   obtain ⟨g8,e8,R8,n8,m8,s8,b8⟩:=LpR.round (B:=(· = d)) R rfl (by rw [←hA];exact rng54a) (by rw [←hB];exact rng54b) ha (o4.mono (fun _ _ h=>h.elim)) (show ¬h.next=d by omega) (by rw [hg5];exact hb) (by rw [hg5];exact k57)
   have hnx:g.next≤g8.next:=by
    have:=o4.next
    have:=k57.next
    omega
   have K8:Kept g g8 (fun b=>b=d∨b=h.next):=by
    refine ⟨m8,hnx,fun b hb hq => ?_⟩
    have q1 : ¬b=d:=fun q=>hq (.inl q)
    have q2 : ¬b=h.next:=fun q=>hq (.inr q)
    have n4':=o4.next
    rw [b8 b q2,k57.ay b (by omega) q1,kS.ay b (by omega) q2]
    exact Kept.ay o4 b hb (fun h=>h)
   exact ⟨g8,CW_yield G e8,K.trans K8,R8,by omega,cM p D',(s8 d).trans g7',nodeD_ok _ _,hf⟩)
  ⟨hk _ (Kept.refl _ _),L0,Nat.le_refl _,D,Old.get k0 hd,hD,by rw [List.take_length]⟩
 obtain ⟨D',gd',dD',hf⟩ : ∃ D',h2.get d=some (aZ D')∧fo D'∧(T.take 0).reverse.foldl (fun d x=>cM x d) D'=T.reverse.foldl (fun d x=>cM x d) D:=by
  obtain ⟨_,D',q1,q2,q3⟩:=(⟨g2,‹_›⟩:(h0.next≤h2.next)∧_)
  exact ⟨D',q1,q2,q3⟩
 obtain ⟨h3,e3,k3,n3⟩:=R2.fin (e0:=aN 66 x)
 have hv:ev (aN 66 x) (.tmp 59) = .func (.func 135) #[] #[ptr c 0]:=(ev_mkF (by decide) x).trans x59
 refine ⟨h3,?_,?_,?_⟩
 ·refine (code_range (v := .tuple #[]) (h2:=h2) (ps := #[60,61]) rng54 hv body135 ?_).trans e3
  rw [hA,hB]
  show CW 135 [.func (.yield h.next) #[] #[],ptr c 0] (h.aP (.obj (.loop .ready none (aN 66 x) [60,61] ca cb)))=_
  rw [hh0]
  exact e2
 ·refine ⟨k3.n0.trans K2.n0,Nat.le_trans K2.next k3.next,fun b hb hq => ?_⟩
  rw [k3.ay b (by have:=K2.next;omega) (by omega),K2.ay b hb (fun q=>by rcases q with q|q;exact hq q;omega)]
 ·rw [k3.dv gd' (by omega)]
  rw [List.take_zero,List.reverse_nil,List.foldl_nil] at hf
  rw [hf]
  rfl
def fL (L:List ak):List Nat:=if L.length=0 then nilD else treeN cM (lvs L)
theorem pc_pos : ∀ (i:Nat),pc i=0→i=0:=by
 intro i
 induction i using Nat.strongRecOn with
 |_ i ih=>
  intro h
  rw [pc_step] at h
  by_cases c:i=0
  ·exact c
  ·have:=ih (i/2) (by omega) (by omega)
   omega
theorem treeG_ok : ∀ (f:Nat) (L:List (List Nat)),(∀ t∈L,fo t)→1≤L.length→L.length≤f→fo (treeG cM f L)
 | 0,L,_,h1,h2=>by omega
 |f+1,L,hd,h1,h2=>by
  rw [treeG_s]
  split
  ·match L,h1 with
   |d::_,_=>exact hd d List.mem_cons_self
  ·exact nodeD_ok _ _
theorem treeV_ok (L:List ak):fo (fL L):=by
 unfold fL
 split
 ·exact nilD_ok
 ·have hl:(lvs L).length=L.length:=List.length_map _
  exact treeG_ok _ _ (fun t ht=>by obtain ⟨r,_,rfl⟩:=List.mem_map.1 ht;exact leafD_ok r) (by omega) (Nat.le_refl _)
theorem stk_ok : ∀ (M S:List (List Nat)) (i:Nat),(∀ t∈M,fo t)→(∀ t∈S,fo t) → ∀ t∈stk cM M S i,fo t
 | [],S,i,_,hS=>hS
 |d::M,S,i,hM,hS=>stk_ok M _ _ (fun t ht=>hM t (List.mem_cons_of_mem _ ht)) (push_ok cM (fun a b=>nodeD_ok a b) i i (hM d List.mem_cons_self) hS)
set_option maxRecDepth 100000 in
theorem r54 {h:ab} (hG:4≤h.n0) (hz:h.get 3=some bB) {v:Value} {L:List ak} (hv:RSl h v L) (hval : ∀ r∈L,fA r=true) (hl:L.length≤1000000) :
  ∃ h',CW 54 [v] h=some (.agg (aZ (fL L)).toArray,h')∧Old h h':=by
 obtain ⟨h1,z1,o1,g1,n1⟩:=fresh (List.replicate 32 (.int .u8 0)) h
 have hll:=hv.len
 have q0:=eql0 L.length
 by_cases c:L.length=0
 ·rw [decide_eq_true c] at q0
  obtain ⟨h2,e2,o2⟩:=r106 (h:=h1) (by rw [o1.n0];exact hG) (Old.get o1 hz)
  have dn:=bg nilD_ok
  have O2:=o1.trans o2
  obtain ⟨h3,e3,k3,g3,_,n3⟩:=bG (n:=32) (k':=aZ nilD) (Old.get o2 g1) (by rw [O2.n0];exact h.ax) rfl dn.1 dn.2.2
  have L3:=bZ g3 dn.1 dn.2.1
  have ev:fL L=nilD:=by unfold fL;rw [if_pos c]
  rw [ev]
  refine ⟨h3,aG is54 hG rfl ((t54_eq _ _ _).trans ?_),Old.bN O2 k3 (Nat.le_refl _)⟩
  unfold t54
  simp -implicitDefEqProofs only [z1,hll,q0,e2,e3,ad,af]
  exact gf results54 agg35 size32 (show 2<66 by decide) _ L3
 ·rw [decide_eq_false c] at q0
  have hlv:(lvs L).length=L.length:=List.length_map _
  have hfin:=fin_stk cM L.length (lvs L) hlv (by omega) (by omega)
  have hsl:=stk_len cM (lvs L) [] 0 rfl
  rw [hlv,Nat.zero_add] at hsl
  have hso:=stk_ok (lvs L) [] 0 (fun t ht=>by obtain ⟨r,_,rfl⟩:=List.mem_map.1 ht;exact leafD_ok r) (fun t ht=>by cases ht)
  have ev:fL L=treeN cM (lvs L):=by unfold fL;rw [if_neg c]
  have key : ∃ o:Out,t54 CW v h=o ∧ ∃ h',o=some (.agg (aZ (fL L)).toArray,h')∧Old h h':=by
   refine ⟨_,rfl,?_⟩
   unfold t54
   simp -implicitDefEqProofs only [z1,hll,q0,ad,af]
   refine bJ (n:=66) (Q:=fun o:Out => ∃ h',o=some (.agg (aZ (fL L)).toArray,h')∧Old h h') (tre2 (h:=h1) (by rw [o1.n0];exact hG) (Old.get o1 hz) (N:=h1.next) (d2:=h.next) rfl (hv.mono o1) hval hl rfl rfl rfl rfl rfl) ?_
   rintro _ y g ⟨rfl,y2,O,sk⟩
   simp -implicitDefEqProofs only [bn,b54_7,if_true,t54k54_5_eq]
   unfold t54k54_5
   generalize hSS:stk cM (lvs L) [] 0=S at *
   cases S with
   |nil=>
    have:=pc_pos L.length (by rw [←hsl];rfl)
    exact absurd this c
   |cons D S'=>
    rw [List.reverse_cons] at sk
    have hlen:=sk.len
    rw [List.length_append,List.length_singleton] at hlen
    have hS'l:S'.reverse.length≤1000000:=by
     have:=pc_le L.length
     rw [List.length_cons] at hsl
     rw [List.length_reverse]
     omega
    obtain ⟨P,gs⟩:=sk.pr
    obtain ⟨b,o,ix,dD,lp⟩:=PR.last P
    have Lp:=lp g (Kept.refl _ _)
    have cD:=bg dD
    have sb:bin Tryd.prog .sub 3 (ai (S'.reverse.length+1)) (.int .i64 1)=some (ai S'.reverse.length):=sub_n1 (by omega) (by omega)
    obtain ⟨g2,z2,o2,q2,m2⟩:=fresh (List.replicate 32 (.int .u8 0)) g
    obtain ⟨g3,e3,k3,q3,_,m3⟩:=bG (n:=32) (k':=aZ D) q2 (by rw [o2.n0];exact g.ax) rfl cD.1 cD.2.2
    have o3:Old g g3:=Old.bN o2 k3 (Nat.le_refl _)
    obtain ⟨w,ew,skw,hbw⟩:=(sk.bM o3).pop
    obtain ⟨Pw,gw⟩:=skw.pr
    have hbl : ∀ b',stB w=some b'→b'<g.next:=fun b' hb'=>(sk.lt (hbw▸hb')).2
    obtain ⟨wa,wc,rfl⟩:=Pw.1
    have OO3:Old h g3:=(o1.trans O).trans o3
    obtain ⟨g4,e4,o4,q4,m4⟩:=r107 (h:=g3) (by rw [OO3.n0];exact hG) (a:=wa) (n:=S'.reverse.length) (c:=wc)
    have OO4:=OO3.trans o4
    simp -implicitDefEqProofs only [hlen,sb,ix,Lp,z2,e3,ew,e4,ad,af]
    have hz3 : ¬3=g.next:=by
     have:=h.aF hz
     have:=o1.next
     have:=O.next
     omega
    obtain ⟨g5,e5,k5,q5⟩:=tre3 (h:=g4) (by rw [OO4.n0];exact hG) (Old.get OO4 hz) (d:=g.next) (c:=g3.next) (w := .slice wa S'.reverse.length wc) (T:=S'.reverse) (D:=D) (x:=up y [(8,ptr g.next 0),(48,y 3),(49,y 3),(50,ai (S'.reverse.length+1)),(51,ai S'.reverse.length),(52,ptr b o),(53,.agg (aZ D).toArray),(54,y 3),(55,y 3),(56,ai (S'.reverse.length+1)),(57,ai S'.reverse.length),(58,.slice wa S'.reverse.length wc),(59,.func (.func 135) #[] #[ptr g3.next 0])]) rfl rfl (Pw.mono o4) rfl hS'l (fun j b' o' hj e=>by
      have:stB (.slice wa S'.reverse.length wc)=some b':=by
       rcases skw.form with ⟨h0,_⟩|⟨bb,m,X,h1,_⟩
       ·rw [h0] at hj;exact absurd hj (Nat.not_lt_zero j)
       ·rw [h1] at e ⊢
        unfold cd ai at e
        simp only at e
        split at e
        ·cases e;rfl
        ·cases e
      have:=hbl b' this
      omega) q4 (by have:=o3.next;have:=m2;omega) (Old.get o4 q3) dD (by rw [OO4.n0];have:=h.ax;have:=o1.next;have:=O.next;omega) hz3
    rw [e5]
    show ∃ h',k54_9 CW (aN 66 _) g5=some (.agg (aZ (fL L)).toArray,h')∧Old h h'
    rw [t54k54_9_eq]
    unfold t54k54_9
    rw [List.reverse_reverse,hfin,←ev] at q5
    have ct:=bg (treeV_ok L)
    have L8:=bZ q5 ct.1 ct.2.1
    have y2':up y [(8,ptr g.next 0),(48,y 3),(49,y 3),(50,ai (S'.reverse.length+1)),(51,ai S'.reverse.length),(52,ptr b o),(53,.agg (aZ D).toArray),(54,y 3),(55,y 3),(56,ai (S'.reverse.length+1)),(57,ai S'.reverse.length),(58,.slice wa S'.reverse.length wc),(59,.func (.func 135) #[] #[ptr g3.next 0])] 2=ptr h.next 0:=y2
    have y8':up y [(8,ptr g.next 0),(48,y 3),(49,y 3),(50,ai (S'.reverse.length+1)),(51,ai S'.reverse.length),(52,ptr b o),(53,.agg (aZ D).toArray),(54,y 3),(55,y 3),(56,ai (S'.reverse.length+1)),(57,ai S'.reverse.length),(58,.slice wa S'.reverse.length wc),(59,.func (.func 135) #[] #[ptr g3.next 0])] 8=ptr g.next 0:=rfl
    have hne : ¬h.next=g.next:=by have:=O.next;omega
    obtain ⟨g6,e6,k6,q6,_,m6⟩:=bG (n:=32) (k':=aZ (fL L)) (k5.dv (Old.get ((O.trans o3).trans o4) g1) hne) (by rw [k5.n0,OO4.n0];exact h.ax) rfl ct.1 ct.2.2
    have L6:=bZ q6 ct.1 ct.2.1
    have hO5:Old h g5:=Old.bN OO4 k5 (by have:=o1.next;have:=O.next;omega)
    simp -implicitDefEqProofs only [y2',y8',L8,e6,ad,af]
    refine ⟨g6,?_,Old.bN hO5 k6 (Nat.le_refl _)⟩
    refine gf results54 agg35 size32 (show 2<66 by decide) _ ?_
    rw [show up (up y [(8,ptr g.next 0),(48,y 3),(49,y 3),(50,ai (S'.reverse.length+1)),(51,ai S'.reverse.length),(52,ptr b o),(53,.agg (aZ D).toArray),(54,y 3),(55,y 3),(56,ai (S'.reverse.length+1)),(57,ai S'.reverse.length),(58,.slice wa S'.reverse.length wc),(59,.func (.func 135) #[] #[ptr g3.next 0])]) [(65,.agg (aZ (fL L)).toArray)] 2=ptr h.next 0 from y2']
    exact L6
  obtain ⟨o9,e,h',e',q⟩:=key
  exact ⟨h',aG is54 hG rfl ((t54_eq _ _ _).trans (e.trans e')),q⟩
end Go.Proofs.YtdnahgfgoajmcaaDoor

