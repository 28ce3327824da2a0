/-
  A part of the proof, spaces and names shortened by a program (a claim may hold 1,500,000 bytes).
  Conditions: as each theorem states.
-/
import Derived.Test.YtjghlcdidopcpaaGreatDoorG13
namespace Go.Proofs.YtjghlcdidopcpaaGreatDoor
open Go Go.Abs
attribute [local congr] bp
abbrev MS:=aV×dy
def cellsL (l:List MS):List Value:=l.flatMap fun p=>p.1.d.cells p.2
theorem cellsL_snoc (l:List MS) (p:MS):cellsL (l ++ [p])=cellsL l++p.1.d.cells p.2:=by unfold cellsL;simp
structure OwnM (h:ai) (N:Nat) (v:Value) (l:List MS):Prop where
 own:fp h N 116 v l.length (cellsL l)
 has : ∀ p∈l,Has h p.2 p.1
 off : ∀ p∈l,p.2.off (fun b=>cN v=some b)
theorem OwnM.nil (h:ai) (N:Nat):OwnM h N (.slice none 0 0) []:=⟨.nil h N 116,fun p hp=>(by cases hp),fun p hp=>by cases hp⟩
theorem OwnM.bG {h h':ai} {N:Nat} {v:Value} {l:List MS} (o:OwnM h N v l) (k:Old h h'):OwnM h' N v l:=
 ⟨o.own.cD k (fun _ _ h=>h),fun p hp=>(o.has p hp).bG k,o.off⟩
theorem bslZ (m:aV) (s:dy) (h:ai) (hl:(m.d.cells s).length=116) (ho:aS (m.d.cells s)=true):bslR 116 (.agg #[(.int .u8 0),(.int .i64 0),(.int .i64 0),(.int .u64 0),(.int .i64 0),(.int .i64 0),(.slice none 0 0),(.slice none 0 0),(.slice none 0 0),(.int .i64 0),(.int .u8 0),(.int .u8 0),(.int .u8 0),(.int .u8 0),(.int .u8 0),(.int .u8 0),(.int .u8 0),(.int .u8 0),(.int .u8 0),(.int .u8 0),(.int .u8 0),(.int .u8 0),(.int .u8 0),(.int .u8 0),(.int .u8 0),(.int .u8 0),(.int .u8 0),(.int .u8 0),(.int .u8 0),(.int .u8 0),(.int .u8 0),(.int .u8 0),(.int .u8 0),(.int .u8 0),(.int .u8 0),(.int .u8 0),(.int .u8 0),(.int .u8 0),(.int .u8 0),(.int .u8 0),(.int .u8 0),(.int .u8 0),(.slice none 0 0),(.bool false),(.int .u8 0),(.int .u8 0),(.int .u8 0),(.int .u8 0),(.int .u8 0),(.int .u8 0),(.int .u8 0),(.int .u8 0),(.int .u8 0),(.int .u8 0),(.int .u8 0),(.int .u8 0),(.int .u8 0),(.int .u8 0),(.int .u8 0),(.int .u8 0),(.int .u8 0),(.int .u8 0),(.int .u8 0),(.int .u8 0),(.int .u8 0),(.int .u8 0),(.int .u8 0),(.int .u8 0),(.int .u8 0),(.int .u8 0),(.int .u8 0),(.int .u8 0),(.int .u8 0),(.int .u8 0),(.int .u8 0),(.int .u8 0),(.int .i64 0),(.int .i64 0),(.int .i64 0),(.int .i64 0),(.int .u8 0),(.int .u8 0),(.int .u8 0),(.int .u8 0),(.int .u8 0),(.int .u8 0),(.int .u8 0),(.int .u8 0),(.int .u8 0),(.int .u8 0),(.int .u8 0),(.int .u8 0),(.int .u8 0),(.int .u8 0),(.int .u8 0),(.int .u8 0),(.int .u8 0),(.int .u8 0),(.int .u8 0),(.int .u8 0),(.int .u8 0),(.int .u8 0),(.int .u8 0),(.int .u8 0),(.int .u8 0),(.int .u8 0),(.int .u8 0),(.int .u8 0),(.int .u8 0),(.int .u8 0),(.int .u8 0),(.int .u8 0),(.slice none 0 0),(.int .i64 0),(.slice none 0 0),(.int .i64 0)]) 1 [(0,mv m s)] h=some (.slice (some ⟨h.next,0,none⟩) 1 1,h.alloc (m.d.cells s)):=
 bsl_one (n:=116) (z:=Zm) h rfl (by decide) (by decide) (by decide) hl ho
theorem fp.base_lt {h:ai} {N size:Nat} {v:Value} {len:Nat} {cells:List Value} (o:fp h N size v len cells) {b:Nat} (hb:cN v=some b):0<len→b<h.next:=by
 intro hl
 obtain ⟨_,_,_,h4⟩:=o
 rcases h4 with ⟨rfl,h0⟩|⟨c,s,rfl,_,h5⟩
 ·cases hb
 ·have hb:some c=some b:=hb
  cases hb
  rcases h5 with ⟨_,h0⟩|⟨_,hg⟩
  ·omega
  ·exact h.bj hg
theorem dy.off_mono {s:dy} {B B':Nat→Prop} (x:s.off B) (h : ∀ b,B' b→B b):s.off B':=fun v hv b hb e=>x v hv b hb (h b e)
theorem app_msg {h:ai} {N:Nat} {v:Value} {l:List MS} {m:aV} {s:dy} (o:OwnM h N v l) (x:Has h s m) (hs:s.off (fun b=>cN v=some b)) (h0:h.n0≤N) (hN:N≤h.next) (hl:l.length≤1000000) :
  ∃ v' h',bq 116 352 v (.slice (some ⟨h.next,0,none⟩) 1 1) (h.alloc (m.d.cells s))=some (v',h')∧OwnM h' N v' (l ++ [(m,s)])∧(∀ hb:ai,N=hb.next→Old hb h→Old hb h'):=by
 have c:=cH x.sl (aV.ok x.wf)
 have o1:Old h (h.alloc (m.d.cells s)):=Kept.alloc _ _ _
 have g1:(h.alloc (m.d.cells s)).get h.next=some (m.d.cells s):=by rw [ai.aO,if_pos rfl]
 have hf:bK 116 1 (.slice (some ⟨h.next,0,none⟩) 1 1) (h.alloc (m.d.cells s))=some (m.d.cells s):=by
  unfold bK
  simp only
  rw [if_neg (by decide),g1]
  simp only [Nat.one_mul,Nat.zero_add,List.drop_zero]
  rw [List.take_of_length_le (by rw [c.2.2];exact Nat.le_refl _),if_pos ⟨by rw [c.2.2];exact Nat.le_refl _,c.1⟩]
 have O:=(o.bG o1)
 obtain ⟨v',h',e1,e2,k,e3⟩:=append_own (by_:=352) (m:=1) O.own (by rw [o1.n0];exact h0) (by rw [ai.cr];omega) (by decide) rfl hf c.2.1 c.1 (by rw [c.2.2]) (by omega) (by omega)
 have kb : ∀ (q:dy),q.off (fun b=>cN v=some b)→q.off (fun b=>cN v=some b∧(h.alloc (m.d.cells s)).get b=some (cellsL l)):=fun q hq=>dy.off_mono hq (fun b e=>e.1)
 have nx:(h.alloc (m.d.cells s)).next=h.next+1:=ai.cr ..
 have off' : ∀ (q:dy) (mm:aV),Has h q mm→q.off (fun b=>cN v=some b)→q.off (fun b=>cN v'=some b):=fun q mm hq ho=>by
  rcases e3 with rfl|⟨e3,_⟩
  ·exact ho
  ·intro w hw b hb e
   rw [e3] at e
   have e:=Option.some.inj e
   have:=hq.sl.lt (p:=h.next) (Nat.le_refl _) w hw b hb
   omega
 refine ⟨v',h',e1,⟨?_,?_,?_⟩,fun hb hn ob => ?_⟩
 ·rw [List.length_append,cellsL_snoc];exact e2
 ·intro p hp
  rcases List.mem_append.1 hp with hp|hp
  ·exact ((o.has p hp).bG o1).cD k (kb _ (o.off p hp))
  ·obtain rfl:=List.mem_singleton.1 hp
   exact (x.bG o1).cD k (kb _ hs)
 ·intro p hp
  rcases List.mem_append.1 hp with hp|hp
  ·exact off' _ _ (o.has p hp) (o.off p hp)
  ·obtain rfl:=List.mem_singleton.1 hp
   exact off' _ _ x hs
 ·refine (ob.trans o1).dr k (fun d hd e => ?_)
  have:=O.own.base e.1
  omega
def cK:Nat→List Nat→List aV×Nat×Int
 | 0,_=>([],0,0)
 |k+1,l=>
  if l.length<10 then ([],0,0) else
  if (di l).2≠0 then ([],0,(di l).2) else
  if l.length<(di l).1 then ([],0,0) else
  if (decF (l.take (di l).1)).2≠0 then ([],0,(decF (l.take (di l).1)).2) else
  ((decF (l.take (di l).1)).1::(cK k (l.drop (di l).1)).1,(di l).1+(cK k (l.drop (di l).1)).2.1,(cK k (l.drop (di l).1)).2.2)
theorem scan_succ (k:Nat) (l:List Nat):cK (k+1) l=(if l.length<10 then ([],0,0) else
  if (di l).2≠0 then ([],0,(di l).2) else
  if l.length<(di l).1 then ([],0,0) else
  if (decF (l.take (di l).1)).2≠0 then ([],0,(decF (l.take (di l).1)).2) else
  ((decF (l.take (di l).1)).1::(cK k (l.drop (di l).1)).1,(di l).1+(cK k (l.drop (di l).1)).2.1,(cK k (l.drop (di l).1)).2.2)):=rfl
theorem res_three {P:Program} {rs:List ResultVar} {n t u w:Nat} (hr:rs = [.tmp t,.tmp u,.tmp w]) (ht:t<n) (hu:u<n) (hw:w<n) (x:Nat→Value) (h:ai):ax P rs (bu n x) h=some (.tuple #[x t,x u,x w],h):=by
 subst hr
 have g : ∀ k,k<n→(bu n x).getD k undef=x k:=fun k hk=>by
  unfold bu
  rw [List.getD_eq_getElem?_getD,List.getElem?_map,List.getElem?_range hk];rfl
 simp only [ax,List.mapM_cons,List.mapM_nil,dD,g t ht,g u hu,g w hw,Option.bind_eq_bind,Option.bind_some,Option.pure_def,Option.map_some]
theorem is29:bF Tryz.prog 29 Tryz.f29:=⟨by kernel_rfl,by kernel_rfl,by kernel_rfl,by kernel_rfl⟩
theorem results29:Tryz.f29.results.toList = [.tmp 2,.tmp 3,.tmp 4]:=by kernel_rfl
theorem b29_exit (C:av) (e:Env) (h:ai):b29_4 C 0 e h=k29_3 C e h:=rfl
def scInv (h0:ai) (a:Option Addr) (n c:Nat) (l:List Nat) (k:Nat) (y:Nat→Value) (g:ai):Prop:=
 ∃ u pl,y 0 = .slice a n c∧y 6=aH u∧u≤l.length∧OwnM g h0.next (y 5) pl∧(pl = []→y 5 = .slice none 0 0)∧Old h0 g∧pl.length≤u∧k=l.length-u+1 ∧
   cK (l.length+1) l=(pl.map Prod.fst++(cK k (l.drop u)).1,u+(cK k (l.drop u)).2.1,(cK k (l.drop u)).2.2)
def scFin (h0:ai) (l:List Nat) (ex:Ex) (y:Nat→Value) (g:ai):Prop:=
 Old h0 g ∧ ∃ pl,pl.map Prod.fst=(cK (l.length+1) l).1∧pl.length≤l.length ∧
  ((ex = .ret∧OwnM g h0.next (y 2) pl∧y 3=aH (cK (l.length+1) l).2.1∧y 4 = .int .i64 (cK (l.length+1) l).2.2) ∨
   (ex = .exit 0∧OwnM g h0.next (y 5) pl∧y 6=aH (cK (l.length+1) l).2.1∧(cK (l.length+1) l).2.2=0))
theorem scan_more : ∀ (k:Nat) (l:List Nat),l.length<k→cK k l=cK (l.length+1) l
 | 0,l,h=>by omega
 |k+1,l,h=>by
  rw [cK,cK]
  split
  ·rfl
  split
  ·rfl
  split
  ·rfl
  split
  ·rfl
  rename_i c1 c2 c3 c4
  have hL:=lenE_ge (Decidable.not_not.1 c2)
  rw [scan_more k _ (by rw [List.length_drop];omega),scan_more l.length (l.drop (di l).1) (by rw [List.length_drop];omega)]
section
variable {h0:ai} {a:Option Addr} {n c:Nat} {l:List Nat} (hG:4≤h0.n0) (hl:aA a n h0=some l) (hg:cZ a n c=true) (hn:n≤1000000)
include hG hl hg hn
set_option maxRecDepth 100000 in
set_option maxHeartbeats 4000000 in
theorem scRound : ∀ k y g,scInv h0 a n c l k y g→dC 57 (scInv h0 a n c l) (scFin h0 l) k (t29l29_11100 CW y g):=by
 rintro k y g ⟨u,pl,y0,y6,hu,O,nil5,K,hpl,hk,hs⟩
 have hlen:=(aC hl).1
 have hby:=(aC hl).2.1
 have hln:bC (.slice a n c)=some (aH n):=rfl
 have hg4:4≤g.n0:=by rw [K.n0];exact hG
 have sb:bin Tryz.prog .sub 3 (aH n) (aH u)=some (aH (n-u)):=sub3 (by omega) (by omega)
 have ge:bin Tryz.prog .geq 3 (aH (n-u)) (.int .i64 10)=some (.bool (decide (((n-u:Nat):Int)≥10))):=aK ..
 have hdl:(l.drop u).length=n-u:=by rw [List.length_drop,hlen]
 rw [hk,scan_succ (l.length-u) (l.drop u)] at hs
 unfold t29l29_11100
 by_cases c1:(l.drop u).length<10
 ·rw [if_pos c1] at hs
  rw [decide_eq_false (by omega)] at ge
  simp -implicitDefEqProofs only [y0,y6,hln,sb,ge,ah,ao]
  refine dC.out 0 ⟨K,pl,by rw [hs];simp,by omega,.inr ⟨rfl,O,?_,by rw [hs]⟩⟩
  show y 6=_
  rw [y6,hs,Nat.add_zero]
 rw [if_neg c1] at hs
 rw [decide_eq_true (by omega)] at ge
 obtain ⟨a1,c1',z1,s1,g1⟩:=slR_from (c:=c) hg (Old.bytes K hl) (by omega:u≤n)
 obtain ⟨h2,e2,o2⟩:=q31 (h:=g) hg4 (c:=c1') s1 g1 (by omega)
 by_cases c2:(di (l.drop u)).2≠0
 ·rw [if_pos c2] at hs
  have q2:bin Tryz.prog .neq 35 (.int .i64 (di (l.drop u)).2) (.int .i64 0)=some (.bool true):=by rw [aD];simpa using c2
  simp -implicitDefEqProofs only [y0,y6,hln,sb,ge,z1,e2,dQ,dX,q2,ah,ao]
  refine dC.ret ⟨K.trans o2,pl,by rw [hs];simp,by omega,.inl ⟨rfl,O.bG o2,?_,by rw [hs];rfl⟩⟩
  show aH u=_
  rw [hs,Nat.add_zero]
 rw [if_neg c2] at hs
 have c2':=Decidable.not_not.1 c2
 have hL:=lenE_ge c2'
 rw [c2'] at e2
 have q2:bin Tryz.prog .neq 35 (.int .i64 0) (.int .i64 0)=some (.bool false):=by rw [aD];rfl
 generalize (di (l.drop u)).1=L at *
 have gt:bin Tryz.prog .gtr 3 (.int .i64 (L:Int)) (aH (n-u))=some (.bool (decide ((L:Int)>((n-u:Nat):Int)))):=aF ..
 by_cases c3:(l.drop u).length<L
 ·rw [if_pos c3] at hs
  rw [decide_eq_true (by omega)] at gt
  simp -implicitDefEqProofs only [y0,y6,hln,sb,ge,z1,e2,dQ,dX,q2,gt,ah,ao]
  refine dC.out 0 ⟨K.trans o2,pl,by rw [hs];simp,by omega,.inr ⟨rfl,O.bG o2,?_,by rw [hs]⟩⟩
  show y 6=_
  rw [y6,hs,Nat.add_zero]
 rw [if_neg c3] at hs
 rw [decide_eq_false (by omega)] at gt
 have ad:bin Tryz.prog .add 3 (aH u) (.int .i64 (L:Int))=some (aH (u+L)):=add3 (by omega)
 have K2:=K.trans o2
 obtain ⟨a3,c3',z3,s3,g3⟩:=slR_mid (c:=c) (lo:=u) (hi:=u+L) hg (Old.bytes K2 hl) (by omega) (by omega)
 rw [show u+L-u=L by omega] at z3 s3 g3
 obtain ⟨sl,h4,e4,x4,o4,f4⟩:=dO (h:=h2) (by rw [K2.n0];exact hG) (c:=c3') s3 g3 (by omega)
 have K4:=K2.trans o4
 have z4:=newZ h4
 obtain ⟨h5,e5,o5,g5,n5⟩:=var_m x4
 have K5:=K4.trans o5
 by_cases c4:(decF ((l.drop u).take L)).2≠0
 ·rw [if_pos c4] at hs
  have q4:bin Tryz.prog .neq 35 (.int .i64 (decF ((l.drop u).take L)).2) (.int .i64 0)=some (.bool true):=by rw [aD];simpa using c4
  simp -implicitDefEqProofs only [y0,y6,hln,sb,ge,z1,e2,dQ,dX,q2,gt,ad,z3,e4,z4,e5,q4,ah,ao]
  refine dC.ret ⟨K5,pl,by rw [hs];simp,by omega,.inl ⟨rfl,O.bG (o2.trans (o4.trans o5)),?_,by rw [hs];rfl⟩⟩
  show aH u=_
  rw [hs,Nat.add_zero]
 rw [if_neg c4] at hs
 have c4':=Decidable.not_not.1 c4
 rw [c4'] at e4
 have x5:=x4.bG o5
 have A5:=(c9 x5 g5).all
 have c5:=cH x5.sl (aV.ok x5.wf)
 have z6:=bslZ (decF ((l.drop u).take L)).1 sl h5 c5.2.2 c5.2.1
 have O5:=O.bG (o2.trans (o4.trans o5))
 obtain ⟨v',h6,e6,O6,k6⟩:=app_msg (h:=h5) O5 x5 (fun w hw b hb e=>by
  have h1:=f4 w hw b hb
  rcases List.eq_nil_or_concat pl with rfl|⟨q,r,rfl⟩
  ·rw [nil5 rfl] at e
   cases e
  ·have:=O.own.base_lt e (by simp)
   have:=o2.next
   omega) (by rw [K5.n0];exact h0.aQ) K5.next (by omega)
 simp -implicitDefEqProofs only [y0,y6,hln,sb,ge,z1,e2,dQ,dX,q2,gt,ad,z3,e4,z4,e5,A5,z6,e6,ah,ao]
 refine dC.next (l.length-(u+L)+1) (by omega) ⟨u+L,pl ++ [((decF ((l.drop u).take L)).1,sl)],y0,rfl,by omega,O6,(fun h=>absurd h (by simp)),k6 h0 rfl K5,by simp;omega,rfl,?_⟩
 rw [hs,List.drop_drop,scan_more (l.length-u) _ (by rw [List.length_drop];omega),show (l.drop (u+L)).length+1=l.length-(u+L)+1 by rw [List.length_drop]]
 simp only [List.map_append,List.map_cons,List.map_nil,List.append_assoc,List.cons_append,List.nil_append,Nat.add_assoc]
end
end Go.Proofs.YtjghlcdidopcpaaGreatDoor

namespace Go.Proofs.YtjghlcdidopcpaaGreatDoor
open Go Go.Abs
attribute [local congr] bp
theorem ext2 (a b c:Value):aY (.tuple #[a,b,c]) 2=some c:=rfl
theorem ext30 (a b c:Value):aY (.tuple #[a,b,c]) 0=some a:=rfl
theorem ext31 (a b c:Value):aY (.tuple #[a,b,c]) 1=some b:=rfl
theorem q29 {h:ai} (hG:4≤h.n0) {a:Option Addr} {n c:Nat} {l:List Nat} (hl:aA a n h=some l) (hg:cZ a n c=true) (hn:n≤1000000) :
  ∃ v pl h',CW 29 [.slice a n c] h=some (.tuple #[v,aH (cK (l.length+1) l).2.1,.int .i64 (cK (l.length+1) l).2.2],h')∧Old h h'∧OwnM h' h.next v pl∧pl.map Prod.fst=(cK (l.length+1) l).1:=by
 have hlen:=(aC hl).1
 have key : ∃ v pl h',t29 CW (.slice a n c) h=some (.tuple #[v,aH (cK (l.length+1) l).2.1,.int .i64 (cK (l.length+1) l).2.2],h')∧Old h h'∧OwnM h' h.next v pl∧pl.map Prod.fst=(cK (l.length+1) l).1:=by
  unfold t29
  simp -implicitDefEqProofs only [ah]
  refine cC (Q:=fun o:Out => ∃ v pl h',o=some (Value.tuple #[v,aH (cK (l.length+1) l).2.1,.int .i64 (cK (l.length+1) l).2.2],h')∧Old h h'∧OwnM h' h.next v pl∧pl.map Prod.fst=(cK (l.length+1) l).1)
   (cx (t29l29_11100_eq CW) (scRound (h0:=h) (a:=a) (n:=n) (c:=c) (l:=l) hG hl hg hn) (l.length+1) (by have:rounds=18446744073709551616:=rfl;omega)
    ⟨0,[],rfl,rfl,Nat.zero_le _,.nil _ _,fun _=>rfl,Kept.refl _ _,Nat.le_refl _,rfl,by simp⟩) ?_
  rintro ex y g ⟨K,pl,hp,_,F⟩
  rcases F with ⟨rfl,O,y3,y4⟩|⟨rfl,O,y6,e0⟩
  ·exact ⟨_,pl,g,by rw [eg,res_three results29 (by decide) (by decide) (by decide),y3,y4],K,O,hp⟩
  ·refine ⟨_,pl,g,?_,K,O,hp⟩
   rw [bJ,b29_exit,t29k29_3_eq]
   unfold t29k29_3
   simp -implicitDefEqProofs only [ah,y6,e0]
 obtain ⟨v,pl,h',e,r⟩:=key
 exact ⟨v,pl,h',az is29 hG rfl ((t29_eq _ _ _).trans e),r⟩
theorem lenE_enc {m:aV} (w:m.Wf) (v:cX m=true):di (enc m)=((enc m).length,0):=by
 have h:=decF_enc w v
 unfold decF at h
 split at h
 ·rename_i c
  exact absurd (congrArg Prod.snd h) c
 split at h
 ·cases congrArg Prod.snd h
 split at h
 ·cases congrArg Prod.snd h
 rename_i c1 c2 c3
 have c1:=Decidable.not_not.1 c1
 refine Prod.ext ?_ c1
 show (di (enc m)).1=(enc m).length
 omega
theorem lenE_app {a r:List Nat} (h:10≤a.length):di (a++r)=di a:=by
 have t : ∀ i j,i+j≤10→((a++r).drop i).take j=(a.drop i).take j:=fun i j hij=>by
  rw [List.drop_append_of_le_length (by omega),List.take_append_of_le_length (by rw [List.length_drop];omega)]
 have t0:(a++r).take 2=a.take 2:=List.take_append_of_le_length (by omega)
 unfold di
 rw [t 2 1 (by omega),t 6 4 (by omega),t0,if_neg (show ¬(a++r).length<10 by rw [List.length_append];omega),if_neg (show ¬a.length<10 by omega)]
theorem scan_enc {m:aV} (w:m.Wf) (v:cX m=true) (k:Nat) (r:List Nat):cK (k+1) (enc m++r)=(m::(cK k r).1,(enc m).length+(cK k r).2.1,(cK k r).2.2):=by
 have h14:=enc_14 w v
 rw [scan_succ,if_neg (by rw [List.length_append];omega),lenE_app (by omega),lenE_enc w v]
 simp only
 rw [if_neg (by decide),if_neg (by rw [List.length_append];omega),List.take_left,List.drop_left,decF_enc w v]
 simp only
 rw [if_neg (by decide)]
theorem scan_tail {m:aV} (w:m.Wf) (v:cX m=true) (k:Nat) {j:Nat} (hj:j<(enc m).length):cK (k+1) ((enc m).take j)=([],0,0):=by
 rw [scan_succ]
 by_cases h10:((enc m).take j).length<10
 ·rw [if_pos h10]
 ·rw [if_neg h10]
  have e:di ((enc m).take j)=((enc m).length,0):=by
   have:=lenE_app (a:=(enc m).take j) (r:=(enc m).drop j) (by omega)
   rw [List.take_append_drop] at this
   rw [←this,lenE_enc w v]
  rw [e]
  simp only
  rw [if_neg (by decide),if_pos (by rw [List.length_take];omega)]
theorem scan_stream : ∀ (ms:List aV) (t:List Nat) (k:Nat),(∀ m∈ms,m.Wf∧cX m=true)→(∀ k,cK (k+1) t=([],0,0))→(ms.flatMap enc).length+t.length<k→cK k (ms.flatMap enc++t)=(ms,(ms.flatMap enc).length,0)
 | [],t,k,_,ht,hk=>by
   obtain ⟨k,rfl⟩ : ∃ j,k=j+1:=⟨k-1,by omega⟩
   exact ht k
 |m::ms,t,k,hm,ht,hk=>by
  obtain ⟨k,rfl⟩ : ∃ j,k=j+1:=⟨k-1,by omega⟩
  obtain ⟨w,v⟩:=hm m List.mem_cons_self
  have h14:=enc_14 w v
  rw [List.flatMap_cons,List.length_append] at hk
  rw [List.flatMap_cons,List.append_assoc,scan_enc w v,scan_stream ms t k (fun q hq=>hm q (List.mem_cons_of_mem _ hq)) ht (by omega),List.length_append]
theorem scan_nil (k:Nat):cK (k+1) []=([],0,0):=by rw [scan_succ,if_pos (by decide)]
def MsgsV (h:ai) (v:Value) (ms:List aV):Prop:=bC v=some (aH ms.length) ∧ ∀ (i:Nat) (m:aV),ms[i]? = some m → ∃ b o k s,bW 116 v (aH i)=some (ptr b o)∧h.get b=some k∧o+116≤k.length∧(k.drop o).take 116=m.d.cells s∧Has h s m
theorem MsgsV.bG {h h':ai} {v:Value} {ms:List aV} (V:MsgsV h v ms) (o:Old h h'):MsgsV h' v ms:=⟨V.1,fun i m hm=>by
 obtain ⟨b,p,k,s,h1,h2,h3,h4,h5⟩:=V.2 i m hm
 exact ⟨b,p,k,s,h1,o.get h2,h3,h4,h5.bG o⟩⟩
theorem MsgsV.at {h:ai} {v:Value} {ms:List aV} (V:MsgsV h v ms) {i:Nat} {m:aV} (hm:ms[i]? = some m) : ∃ pt s,bW 116 v (aH i)=some pt∧Has h s m ∧ ∀ h',Old h h'→cq 116 pt h'=some (mv m s,h'):=by
 obtain ⟨b,p,k,s,h1,h2,h3,h4,h5⟩:=V.2 i m hm
 refine ⟨_,s,h1,h5,fun h' o => ?_⟩
 have:=ldN_at (n:=116) (o.get h2) (o:=p) h3 (by rw [h4];exact (cH h5.sl (aV.ok h5.wf)).1)
 rw [h4] at this
 exact this
theorem cellsL_at : ∀ (l:List MS) (i:Nat) (p:MS),(∀ q∈l,(q.1.d.cells q.2).length=116)→l[i]? = some p→((cellsL l).drop (i*116)).take 116=p.1.d.cells p.2∧i*116+116≤(cellsL l).length
 | [],i,p,_,h=>by cases h
 |q::l,0,p,hl,h=>by
  cases h
  have h1:=hl q List.mem_cons_self
  refine ⟨?_,?_⟩
  ·rw [Nat.zero_mul,List.drop_zero,cellsL,List.flatMap_cons,List.take_left' h1]
  ·rw [cellsL,List.flatMap_cons,List.length_append]
   omega
 |q::l,i+1,p,hl,h=>by
  have h1:=hl q List.mem_cons_self
  obtain ⟨a,b⟩:=cellsL_at l i p (fun r hr=>hl r (List.mem_cons_of_mem _ hr)) h
  have e:cellsL (q::l)=q.1.d.cells q.2++cellsL l:=by unfold cellsL;rw [List.flatMap_cons]
  refine ⟨?_,?_⟩
  ·rw [e,Nat.add_mul,Nat.one_mul,Nat.add_comm (i*116),←h1,List.drop_length_add_append,h1]
   exact a
  ·rw [e,List.length_append]
   omega
theorem OwnM.at {h:ai} {N:Nat} {v:Value} {l:List MS} (O:OwnM h N v l) {i:Nat} {p:MS} (hp:l[i]? = some p) : ∃ pt,bW 116 v (aH i)=some pt∧Has h p.2 p.1 ∧ ∀ h',Old h h'→cq 116 pt h'=some (mv p.1 p.2,h'):=by
 have hi:=(List.getElem?_eq_some_iff.1 hp).1
 have hx:=O.has p (List.mem_of_getElem? hp)
 obtain ⟨e1,e2⟩:=cellsL_at l i p (fun q hq=>(cH (O.has q hq).sl (aV.ok (O.has q hq).wf)).2.2) hp
 obtain ⟨_,_,_,h4⟩:=O.own
 rcases h4 with ⟨_,h0⟩|⟨b,s,rfl,_,⟨_,h0⟩|⟨_,hg⟩⟩
 ·omega
 ·omega
 ·refine ⟨ptr b (i*116),?_,hx,fun h' o => ?_⟩
  ·unfold bW
   simp only []
   rw [if_pos (by omega),Int.toNat_natCast,Nat.zero_add]
  ·have:=ldN_at (n:=116) (o.get hg) (o:=i*116) e2 (by rw [e1];exact (cH hx.sl (aV.ok hx.wf)).1)
   rw [e1] at this
   exact this
theorem is11:bF Tryz.prog 11 Tryz.f11:=⟨by kernel_rfl,by kernel_rfl,by kernel_rfl,by kernel_rfl⟩
theorem results11:Tryz.f11.results.toList = [.tmp 4]:=by kernel_rfl
theorem b11_7_exit (C:av) (e:Env) (h:ai):b11_7 C 0 e h=k11_5 C e h:=rfl
theorem b11_21_exit (C:av) (e:Env) (h:ai):b11_21 C 2 e h=k11_19 C e h:=rfl
theorem take_snoc {α:Type} {l:List α} {i:Nat} {a:α} (h:l[i]? = some a):l.take (i+1)=l.take i ++ [a]:=by
 rw [List.take_add_one,h];rfl
structure MGood (m:aV):Prop where
 w:m.Wf
 v:cX m=true
 s:m.n.Small
theorem enc_20 {m:aV} (w:m.Wf) (v:cX m=true):(enc m).length≤20014:=by
 obtain ⟨v1,v2⟩:=valid_parts v
 have:=body_len v1 v2 w
 unfold enc dF
 simp only [List.length_append,ay]
 omega
theorem encs_le : ∀ (l:List aV),(∀ m∈l,MGood m)→(l.flatMap enc).length≤l.length*20014
 | [],_=>by simp
 |m::l,h=>by
  have h1:=enc_20 (h m List.mem_cons_self).w (h m List.mem_cons_self).v
  have h2:=encs_le l (fun q hq=>h q (List.mem_cons_of_mem _ hq))
  rw [List.flatMap_cons,List.length_append,List.length_cons,Nat.add_mul]
  omega
def s2Inv (h0:ai) (v vk:Value) (ms:List aV) (k:Nat) (y:Nat→Value) (g:ai):Prop:=
 ∃ i,i+k=ms.length∧y 0=v∧y 12=vk∧y 15=aH i∧Old h0 g
def s2Fin (h0:ai) (ex:Ex) (_:Nat→Value) (g:ai):Prop:=ex = .exit 2∧Old h0 g
theorem s2Round {h0:ai} {v vk:Value} {N:Nat} {ms:List aV} {pl:List MS} (hG:4≤h0.n0) (V:MsgsV h0 v ms) (O:OwnM h0 N vk pl) (hp:pl.map Prod.fst=ms) (hms:ms.length≤12) (sm : ∀ m∈ms,m.n.Small) :
  ∀ k y g,s2Inv h0 v vk ms k y g→dC 118 (s2Inv h0 v vk ms) (s2Fin h0) k (dP CW y g):=by
 rintro k y g ⟨i,hik,y0,y12,y15,K⟩
 have hln:=V.1
 unfold dP
 by_cases hi:i<ms.length
 ·obtain ⟨m,hm⟩ : ∃ m,ms[i]? = some m:=⟨ms[i],List.getElem?_eq_getElem hi⟩
  have hm':=hm
  rw [←hp,List.getElem?_map] at hm'
  obtain ⟨p,hpp,rfl⟩:=Option.map_eq_some_iff.1 hm'
  obtain ⟨pt,s,i1,X,ld⟩:=V.at hm
  obtain ⟨pk,i2,X2,ld2⟩:=O.at hpp
  have b1:=ld2 g K
  have b2:=ld g K
  obtain ⟨g',e,o⟩:=r15m (h:=g) (by rw [K.n0];exact hG) (X2.bG K) (X.bG K) (sm p.1 (List.mem_of_getElem? hm))
  rw [decide_eq_true rfl] at e
  simp -implicitDefEqProofs only [y0, y12, y15, hln, eu, decide_eq_true hi, i1, i2, b1, b2, e, add31 (show i+1≤9223372036854775807 by omega), ah, ao, Bool.not_true, aw]
  exact dC.next (k-1) (by omega) ⟨i+1,by omega,y0,y12,rfl,K.trans o⟩
 ·simp -implicitDefEqProofs only [y0, y15, hln, eu, decide_eq_false hi, ah, ao]
  exact dC.out 2 ⟨rfl,K⟩
theorem loop11b {h0:ai} {v vk:Value} {N:Nat} {ms:List aV} {pl:List MS} {y:Nat→Value} (hG:4≤h0.n0) (V:MsgsV h0 v ms) (O:OwnM h0 N vk pl) (hp:pl.map Prod.fst=ms) (hms:ms.length≤12) (sm : ∀ m∈ms,m.n.Small) (y0:y 0=v) (y12:y 12=vk) (y15:y 15 = .int .i64 0) :
  ∃ h',ep (iter (aI Tryz.prog CW (partOf Tryz.f11 [1,1,1,1,1,1,1,1,0,1,0,0])) rounds (bu 118 y) h0) (ax Tryz.prog Tryz.f11.results.toList) (b11_21 CW)=some (.bool true,h'):=by
 refine cC (Q:=fun o:Out => ∃ h',o=some (Value.bool true,h')) (cx (t11l11_11111111010_eq CW) (s2Round hG V O hp hms sm) ms.length (by have:rounds=18446744073709551616:=rfl;omega) ⟨0,Nat.zero_add _,y0,y12,y15,Kept.refl _ _⟩) ?_
 rintro ex w g ⟨rfl,K⟩
 rw [bJ,b11_21_exit,t11k11_19_eq]
 unfold t11k11_19
 exact ⟨g,by simp -implicitDefEqProofs only [r12,ah]⟩
def s1Inv (h0:ai) (v ct:Value) (ms:List aV) (k:Nat) (y:Nat→Value) (g:ai):Prop:=
 ∃ i,i+k=ms.length∧y 0=v∧y 1=ct∧y 6=aH i∧Old h0 g∧OwnB g h0.next (y 5) ((ms.take i).flatMap enc) ∧ ∀ m∈ms.take i,MGood m
def s1Fin (h0:ai) (v ct:Value) (ms:List aV) (ex:Ex) (y:Nat→Value) (g:ai):Prop:=
 (ex = .ret∧y 4 = .bool true)∨(ex = .exit 0∧y 0=v∧y 1=ct∧Old h0 g∧OwnB g h0.next (y 5) (ms.flatMap enc) ∧ ∀ m∈ms,MGood m)
theorem s1Round {h0:ai} {v ct:Value} {ms:List aV} (hG:4≤h0.n0) (V:MsgsV h0 v ms) (wf : ∀ m∈ms,m.Wf) (hms:ms.length≤12) :
  ∀ k y g,s1Inv h0 v ct ms k y g→dC 118 (s1Inv h0 v ct ms) (s1Fin h0 v ct ms) k (t11l11_111010 CW y g):=by
 rintro k y g ⟨i,hik,y0,y1,y6,K,O,hg⟩
 have hln:=V.1
 have z35:bin Tryz.prog .neq 35 (.int .i64 0) (.int .i64 0)=some (.bool false):=by rw [aD];rfl
 have x35:bin Tryz.prog .neq 35 (.int .i64 2) (.int .i64 0)=some (.bool true):=by rw [aD];rfl
 unfold t11l11_111010
 by_cases hi:i<ms.length
 ·obtain ⟨m,hm⟩ : ∃ m,ms[i]? = some m:=⟨ms[i],List.getElem?_eq_getElem hi⟩
  have w:=wf m (List.mem_of_getElem? hm)
  obtain ⟨pt,s,i1,X,ld⟩:=V.at hm
  have b1:=ld g K
  obtain ⟨r,h2,e2,k2,o2⟩:=r18m (h:=g) (by rw [K.n0];exact hG) (X.bG K)
  have K2:=K.trans o2
  have b2:=ld h2 K2
  cases r with
  |true=>
   simp -implicitDefEqProofs only [y0, y6, hln, eu, decide_eq_true hi, i1, b1, e2, r12, ah, ao, au, sf, ak, if_true]
   exact dC.ret (.inl ⟨rfl,rfl⟩)
  |false=>
  have sm:=k2 rfl
  obtain ⟨s3,h3,e3,x3,o3⟩:=r20m (h:=h2) (by rw [K2.n0];exact hG) (X.bG K2) sm
  have K3:=K2.trans o3
  obtain ⟨h4,e4,o4⟩:=r19 (h:=h3) (by rw [K3.n0];exact hG) x3 sm
  have K4:=K3.trans o4
  cases vv:cX m with
  |false=>
   rw [vv] at e4
   rw [if_neg (by decide)] at e4
   simp -implicitDefEqProofs only [y0, y6, hln, eu, decide_eq_true hi, i1, b1, e2, b2, e3, e4, x35, r12, ah, ao, au, beq_self_eq_true, al, Bool.false_eq_true, if_false]
   exact dC.ret (.inl ⟨rfl,rfl⟩)
  |true=>
  rw [vv,if_pos rfl] at e4
  have b4:=ld h4 K4
  obtain ⟨s5,h5,e5,x5,o5⟩:=r20m (h:=h4) (by rw [K4.n0];exact hG) (X.bG K4) sm
  have K5:=K4.trans o5
  obtain ⟨a7,c7,h7,e7,s7,g7,o7,f7⟩:=r21 (h:=h5) (by rw [K5.n0];exact hG) x5 sm vv
  have K7:=K5.trans o7
  have OK7:=(o2.trans (o3.trans (o4.trans (o5.trans o7))))
  have O7:=O.cD OK7 (fun _ _ h=>h)
  have hE:=encs_le (ms.take i) hg
  rw [List.length_take,Nat.min_eq_left (by omega)] at hE
  have hi2:=enc_20 w vv
  obtain ⟨v8,h8,e8,O8,k8,_⟩:=append_ownB O7 (by rw [K7.n0];exact h0.aQ) K7.next (c:=c7) s7 (by omega)
  have K8:Old h0 h8:=K7.dr k8 (fun d hd e=>by have:=O7.own.base e;omega)
  simp -implicitDefEqProofs only [y0, y6, hln, eu, decide_eq_true hi, i1, b1, e2, b2, e3, e4, z35, b4, e5, e7, e8, add31 (show i+1≤9223372036854775807 by omega), ah, ao, au, beq_self_eq_true, al, Bool.false_eq_true, if_false, dQ, dX]
  refine dC.next (k-1) (by omega) ⟨i+1,by omega,y0,y1,rfl,K8,?_,fun q hq => ?_⟩
  ·rw [take_snoc hm,List.flatMap_append,List.flatMap_cons,List.flatMap_nil,List.append_nil]
   exact O8
  ·rw [take_snoc hm] at hq
   rcases List.mem_append.1 hq with hq|hq
   ·exact hg q hq
   ·obtain rfl:=List.mem_singleton.1 hq
    exact ⟨w,vv,sm⟩
 ·have hi':i=ms.length:=by omega
  rw [hi',List.take_length] at O hg
  simp -implicitDefEqProofs only [y0, y6, hln, eu, decide_eq_false hi, ah, ao]
  exact dC.out 0 (.inr ⟨rfl,y0,y1,K,O,hg⟩)
section
variable {h:ai} {a:Option Addr} {c:Nat} {ms:List aV} {ct:Int} (hG:4≤h.n0) (V:MsgsV h (.slice a ms.length c) ms) (wf : ∀ m∈ms,m.Wf) (wc:(Lit.int .u16 ct).wf=true)
include hG V wf wc
set_option maxRecDepth 100000 in
set_option maxHeartbeats 4000000 in
theorem dev11 : ∃ h',CW 11 [.slice a ms.length c,.int .u16 ct] h=some (.bool true,h'):=by
 have key : ∃ h',t11 CW (.slice a ms.length c) (.int .u16 ct) h=some (.bool true,h'):=by
  have z35:bin Tryz.prog .neq 35 (.int .i64 0) (.int .i64 0)=some (.bool false):=by rw [aD];rfl
  have wc:0≤ct∧ct≤65535:=by
   simp [Lit.wf,IntKind.min,IntKind.max,IntKind.signed,IntKind.bits] at wc
   omega
  obtain ⟨cn,rfl⟩ : ∃ k:Nat,ct=(k:Int):=⟨ct.toNat,by omega⟩
  have hln:=V.1
  have hgt:bin Tryz.prog .gtr 3 (aH ms.length) (.int .i64 12)=some (.bool (decide (12<ms.length))):=gtr3 ms.length 12
  by_cases hms:12<ms.length
  ·rw [decide_eq_true hms] at hgt
   exact ⟨h,by unfold t11;simp -implicitDefEqProofs only [hln, hgt, r12, ah, ao]⟩
  rw [decide_eq_false hms] at hgt
  have hms:ms.length≤12:=by omega
  have o1:Old h (h.alloc []):=Kept.alloc _ _ _
  unfold t11
  simp -implicitDefEqProofs only [hln, hgt, bslB, ah, ao]
  refine cC (Q:=fun o:Out => ∃ h',o=some (Value.bool true,h')) (cx (t11l11_111010_eq CW) (s1Round (h0:=h) (v := .slice a ms.length c) (ct := .int .u16 (cn:Int)) (ms:=ms) hG V wf hms) ms.length (by have:rounds=18446744073709551616:=rfl;omega)
   ⟨0,Nat.zero_add _,rfl,rfl,rfl,o1,own0 h,fun m hm=>by cases hm⟩) ?_
  rintro ex y g (⟨rfl,y4⟩|⟨rfl,y0,y1,K,O,hg⟩)
  ·exact ⟨g,by rw [eg,fP results11 (by decide),y4]⟩
  rw [bJ,b11_7_exit,t11k11_5_eq]
  have hE:=encs_le ms hg
  have sml : ∀ m∈ms,m.n.Small:=fun m hm=>(hg m hm).s
  have gv : ∀ m∈ms,m.Wf∧cX m=true:=fun m hm=>⟨(hg m hm).w,(hg m hm).v⟩
  have l5:=O.own.bC
  have g0:bin Tryz.prog .gtr 3 (aH ms.length) (.int .i64 0)=some (.bool (decide (0<ms.length))):=gtr3 ms.length 0
  unfold t11k11_5
  by_cases h0:0<ms.length
  ·rw [decide_eq_true h0] at g0
   obtain ⟨m,hm⟩ : ∃ m,ms[0]? = some m:=⟨ms[0],List.getElem?_eq_getElem h0⟩
   have gm:=hg m (List.mem_of_getElem? hm)
   obtain ⟨pt,s,i1,X,ld⟩:=V.at hm
   have i1:bW 116 (.slice a ms.length c) (.int .i64 0)=some pt:=i1
   have b1:=ld g K
   obtain ⟨s5,h5,e5,x5,o5⟩:=r20m (h:=g) (by rw [K.n0];exact hG) (X.bG K) gm.s
   have K5:=K.trans o5
   obtain ⟨a7,c7,h7,e7,s7,g7,o7,f7⟩:=r21 (h:=h5) (by rw [K5.n0];exact hG) x5 gm.s gm.v
   have K7:=K5.trans o7
   have O7:=O.cD (o5.trans o7) (fun _ _ h=>h)
   have h14:=enc_14 gm.w gm.v
   have h20:=enc_20 gm.w gm.v
   have hl7:bC (.slice a7 (enc m).length c7)=some (aH (enc m).length):=rfl
   have q0:bin Tryz.prog .eql 3 (aH (enc m).length) (.int .i64 0)=some (.bool false):=by
    rw [aJ]
    have:(((enc m).length:Int)==0)=false:=beq_eq_false_iff_ne.2 (show ((enc m).length:Int)≠0 by omega)
    rw [this]
   have cv : ∀ h,cvI .i64 (.int .u16 (cn:Int)) h=some (aH cn,h):=fun h=>by rw [bg,wrap_i64 (by omega) (by omega)]
   have rm:bin Tryz.prog .rem 3 (aH cn) (aH (enc m).length)=some (aH (cn%(enc m).length)):=by
    unfold aH
    rw [bin_rem _ _ _ _ _ (show ((enc m).length:Int)≠0 by omega)]
    rfl
   have hj:cn%(enc m).length<(enc m).length:=Nat.mod_lt _ (by omega)
   generalize cn%(enc m).length=j at rm hj
   obtain ⟨aj,cj,zj,sj,gj⟩:=slR_to (c:=c7) g7 s7 (Nat.le_of_lt hj)
   obtain ⟨v8,h8,e8,O8,k8,_⟩:=append_ownB O7 (by rw [K7.n0];exact h.aQ) K7.next (c:=cj) sj (by have:=Nat.mul_le_mul_right 20014 hms;omega)
   have K8:Old h h8:=K7.dr k8 (fun d hd e=>by have:=O7.own.base e;omega)
   obtain ⟨a8,c8,rfl,s8,g8,_⟩:=O8.bytes
   have hsc:cK ((ms.flatMap enc++(enc m).take j).length+1) (ms.flatMap enc++(enc m).take j)=(ms,(ms.flatMap enc).length,0):=scan_stream ms _ _ gv (fun k=>scan_tail gm.w gm.v k hj) (by rw [List.length_append];omega)
   have hlt:(ms.flatMap enc++(enc m).take j).length≤1000000:=by rw [List.length_append,List.length_take];omega
   obtain ⟨vk,pl,h9,e9,o9,O9,p9⟩:=q29 (h:=h8) (by rw [K8.n0];exact hG) (c:=c8) s8 g8 (by omega)
   rw [hsc] at e9 p9
   have Q9:=K8.trans o9
   have p9:pl.map Prod.fst=ms:=p9
   have lpl:pl.length=ms.length:=by rw [←p9,List.length_map]
   have ln9:=O9.own.bC
   rw [lpl] at ln9
   have nn : ∀ k,bin Tryz.prog .neq 3 (aH k) (aH k)=some (.bool false):=fun k=>by rw [neq3,decide_eq_true rfl];rfl
   have l2 : ∀ y,y 0 = .slice a ms.length c→y 12=vk→y 15 = .int .i64 0 → ∃ h',ep (iter (aI Tryz.prog CW (partOf Tryz.f11 [1,1,1,1,1,1,1,1,0,1,0,0])) rounds (bu 118 y) h9) (ax Tryz.prog Tryz.f11.results.toList) (b11_21 CW)=some (.bool true,h'):=fun y y0 y12 y15=>
    loop11b (h0:=h9) (by rw [Q9.n0];exact hG) (V.bG Q9) O9 p9 hms sml y0 y12 y15
   simp -implicitDefEqProofs only [y0, y1, l5, g0, i1, b1, e5, e7, hl7, q0, cv, rm, zj, e8, e9, z35, nn, ln9, hln, ah, ao, au, beq_self_eq_true, al, Bool.false_eq_true, if_false, dQ, dX, ext2, ext30, ext31]
   exact l2 _ y0 rfl rfl
  ·rw [decide_eq_false h0] at g0
   obtain ⟨a8,c8,e5,s8,g8,_⟩:=O.bytes
   have hsc:cK ((ms.flatMap enc).length+1) (ms.flatMap enc)=(ms,(ms.flatMap enc).length,0):=by
    have:=scan_stream ms [] ((ms.flatMap enc).length+1) gv scan_nil (by simp)
    rwa [List.append_nil] at this
   rw [e5] at l5
   obtain ⟨vk,pl,h9,e9,o9,O9,p9⟩:=q29 (h:=g) (by rw [K.n0];exact hG) (c:=c8) s8 g8 (by omega)
   rw [hsc] at e9 p9
   have Q9:=K.trans o9
   have p9:pl.map Prod.fst=ms:=p9
   have lpl:pl.length=ms.length:=by rw [←p9,List.length_map]
   have ln9:=O9.own.bC
   rw [lpl] at ln9
   have nn : ∀ k,bin Tryz.prog .neq 3 (aH k) (aH k)=some (.bool false):=fun k=>by rw [neq3,decide_eq_true rfl];rfl
   have l2 : ∀ y,y 0 = .slice a ms.length c→y 12=vk→y 15 = .int .i64 0 → ∃ h',ep (iter (aI Tryz.prog CW (partOf Tryz.f11 [1,1,1,1,1,1,1,1,0,1,0,0])) rounds (bu 118 y) h9) (ax Tryz.prog Tryz.f11.results.toList) (b11_21 CW)=some (.bool true,h'):=fun y y0 y12 y15=>
    loop11b (h0:=h9) (by rw [Q9.n0];exact hG) (V.bG Q9) O9 p9 hms sml y0 y12 y15
   simp -implicitDefEqProofs only [e5, y0, l5, g0, e9, z35, nn, ln9, hln, ah, ao, au, beq_self_eq_true, al, Bool.false_eq_true, if_false, ext2, ext30, ext31]
   exact l2 _ y0 rfl rfl
 obtain ⟨h',e⟩:=key
 exact ⟨h',az is11 hG rfl ((t11_eq _ _ _ _).trans e)⟩
end
end Go.Proofs.YtjghlcdidopcpaaGreatDoor

namespace Go.Proofs.YtjghlcdidopcpaaGreatDoor
open Go Go.Abs
section
variable {H:Type} {enc:TypeId×Value→H} {W:World}
theorem list_pick {P:Nat→aV→Prop} {n:Nat} (h : ∀ i,i<n → ∃ m,P i m) : ∃ ms:List aV,ms.length=n ∧ ∀ (i:Nat) (m:aV),ms[i]? = some m→P i m:=by
 induction n with
 |zero=>exact ⟨[],rfl,fun i m hm=>by cases hm⟩
 |succ n ih=>
  obtain ⟨ms,h1,h2⟩:=ih (fun i hi=>h i (by omega))
  obtain ⟨m,hm⟩:=h n (by omega)
  refine ⟨ms ++ [m],by simp [h1],fun i q hq => ?_⟩
  by_cases hi:i<n
  ·rw [List.getElem?_append_left (by omega)] at hq
   exact h2 i q hq
  ·rw [List.getElem?_append_right (by omega),h1] at hq
   have h0:i-n=0:=by
    have:=(List.getElem?_eq_some_iff.1 hq).1
    simp at this
    omega
   rw [h0] at hq
   cases hq
   obtain rfl:i=n:=by omega
   exact hm
theorem msgs_of {held:Bool} {base:Nat} {fuel:Nat} {v:Value} {x:DataW H×List MemPlace} (h:DataW.trod enc Tryz.prog W base (fun _=>true) held fuel 62 [v]=some x) :
  isHole (clean W.heap.size v)=false ∧ ∃ (ms:List aV) (ad:Option Addr) (cp:Nat),clean W.heap.size v = .slice ad ms.length cp∧MsgsV (dn W (view W)) (.slice ad ms.length cp) ms ∧ ∀ m∈ms,m.Wf:=by
 have he:Tryz.prog.cellsOf 37=116:=by kernel_rfl
 rcases DataW.trod_slice Tryz.underlying62 h with ⟨h1,_⟩|⟨a,len,cap,elems,rest,n,_,h1,_,_,hlc,hcm,hl,hel,hsp,_⟩
 ·cases h1
  exact ⟨rfl,[],none,0,rfl,⟨rfl,fun i m hm=>by cases hm⟩,fun m hm=>by cases hm⟩
 ·cases h1
  rw [he] at hel hsp
  have hpos:0<cap→a.spot=none∧a.block<W.heap.size:=by
   intro h0
   have key : ∃ cs,W.cells? base (a.add (0*116)) 116=some cs:=by
    by_cases hlen:0<len
    ·have:=hel 0 hlen
     rw [List.getElem?_eq_getElem (by omega),Option.bind_eq_some_iff] at this
     obtain ⟨cs,hc,_⟩:=this
     exact ⟨cs,hc⟩
    ·have:=(hsp rfl).2 0 (by omega)
     rw [List.getElem?_eq_getElem (by rw [(hsp rfl).1];omega),Option.bind_eq_some_iff] at this
     obtain ⟨cs,hc,_⟩:=this
     obtain rfl:len=0:=by omega
     exact ⟨cs,hc⟩
   obtain ⟨cs,hc⟩:=key
   obtain ⟨_,hlen,hcell⟩:=World.cells?_some hc
   have g:=hcell 0 (by decide)
   obtain ⟨c0,hc0⟩ : ∃ c0,cs[0]? = some c0:=⟨cs[0],List.getElem?_eq_getElem (by omega)⟩
   rw [hc0,Nat.zero_mul] at g
   have g:W.cell? a=some c0:=g
   obtain ⟨e1,e2,_⟩:=view_cell g
   exact ⟨e1,e2⟩
  obtain ⟨g1,a',g2,g3⟩:=clean_slice (W:=W) hlc hpos
  refine ⟨g1,?_⟩
  by_cases h0:len=0
  ·subst h0
   exact ⟨[],_,_,g2,⟨rfl,fun i m hm=>by cases hm⟩,fun m hm=>by cases hm⟩
  have ha:=g3 (by omega)
  subst ha
  have each : ∀ i,i<len → ∃ m:aV,m.Wf ∧ ∃ k s,view W a'.block=some k∧a'.off+i*116+116≤k.length∧(k.drop (a'.off+i*116)).take 116=m.d.cells s∧Has (dn W (view W)) s m:=by
   intro i hi
   have h2:=hel i hi
   rw [List.getElem?_eq_getElem (by omega),Option.bind_eq_some_iff] at h2
   obtain ⟨es,hc,ht⟩:=h2
   obtain ⟨M,s,n',hcl,X,ok,rg⟩:=trod_msg ht
   obtain ⟨m,rfl,rfl,w⟩:=msg_of X ok rg
   obtain ⟨_,hlen,hcell⟩:=World.cells?_some hc
   have vc : ∀ j,j<116 → ∃ k,view W a'.block=some k∧k[a'.off+i*116+j]? = (m.d.cells s)[j]? := by
    intro j hj
    have g:=hcell j hj
    have h3:es[j]? = some es[j]:=List.getElem?_eq_getElem (by omega)
    rw [h3] at g
    obtain ⟨_,_,k,hk,hc2⟩:=view_cell g
    rw [add_block,add_block] at hk
    rw [add_off,add_off] at hc2
    refine ⟨k,hk,?_⟩
    rw [hc2,←hcl,List.getElem?_map,h3]
    rfl
   obtain ⟨k,hk,_⟩:=vc 0 (by decide)
   have vc : ∀ j,j<116→k[a'.off+i*116+j]? = (m.d.cells s)[j]? := fun j hj=>by
    obtain ⟨k',hk',e⟩:=vc j hj
    rw [hk] at hk'
    cases hk'
    exact e
   have cl:=(cH X (aV.ok w)).2.2
   have hkl:a'.off+i*116+116≤k.length:=by
    have e:=vc 115 (by decide)
    rw [List.getElem?_eq_getElem (show 115<(m.d.cells s).length by omega)] at e
    have:=(List.getElem?_eq_some_iff.1 e).1
    omega
   refine ⟨m,w,k,s,hk,hkl,?_,X,w⟩
   refine List.ext_getElem? fun j => ?_
   rw [List.getElem?_take]
   by_cases hj:j<116
   ·rw [if_pos hj,List.getElem?_drop,vc j hj]
   ·rw [if_neg hj,List.getElem?_eq_none (by omega)]
  obtain ⟨ms,h5,h6⟩:=list_pick each
  have ne:ms ≠ []:=fun e=>by rw [e] at h5;exact h0 h5.symm
  refine ⟨ms,some a',cap,by rw [h5];exact g2,⟨rfl,fun i m hm => ?_⟩,fun m hm => ?_⟩
  ·obtain ⟨w,k,s,hk,h7,h8,h9⟩:=h6 i m hm
   have hi:=(List.getElem?_eq_some_iff.1 hm).1
   refine ⟨a'.block,a'.off+i*116,k,s,?_,by rw [view_get];exact hk,h7,h8,h9⟩
   obtain ⟨b,off,sp⟩:=a'
   unfold bW
   simp only []
   rw [if_pos (by omega),Int.toNat_natCast]
  ·obtain ⟨i,hi⟩:=List.mem_iff_getElem?.1 hm
   exact (h6 i m hi).1
end
end Go.Proofs.YtjghlcdidopcpaaGreatDoor

