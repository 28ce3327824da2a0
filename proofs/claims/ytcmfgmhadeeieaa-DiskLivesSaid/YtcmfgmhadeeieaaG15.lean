/-
  A part of the proof, spaces and names shortened by a program (a claim may hold 1,500,000 bytes).
  Conditions: as each theorem states.
-/
import Derived.Test.YtcmfgmhadeeieaaG14
namespace Go.Proofs.Ytcmfgmhadeeieaa
open Go Go.Abs
theorem is40:cA Try.prog 40 Try.f40:=⟨by kernel_rfl,by kernel_rfl,by kernel_rfl,by kernel_rfl⟩
theorem results40:Try.f40.results.toList = [.cell 6 63,.cell 7 70,.tmp 8,.tmp 9]:=by kernel_rfl
theorem b40_exit (C:al) (e:Env) (h:ah):b40_12 C 0 e h=k40_10 C e h:=rfl
theorem b40_exit2 (C:al) (e:Env) (h:ah):b40_24 C 2 e h=k40_22 C e h:=rfl
theorem fx.atZ {h:ah} {w:Value} {vals:List (List Nat)} (R:fx h w vals) {i:Nat} {r:List Nat} (hi:vals[i]? = some r) : ∃ b p ai ni ci,cd 1 w (aq i)=some (ptr b p)∧(∀ h',Old h h'→ba (ptr b p) h'=some (.slice ai ni ci,h'))∧av ai ni h=some r∧goodZ ai ni ci:=by
 obtain ⟨a,n,c,rfl,rfl,_,hR⟩:=R
 have hl:=(List.getElem?_eq_some_iff.1 hi).1
 obtain ⟨b,off,s,k,rv,rfl,h2,h3,h4,ai,ni,ci,rfl,h6,_,h8⟩:=hR i hl
 rw [List.getD_eq_getElem?_getD,hi] at h6
 refine ⟨b,off+i,ai,ni,ci,?_,fun h' k'=>aN (Old.get k' h2) h3 rfl,h6,h8⟩
 unfold cd
 simp only [aq]
 rw [if_pos (by omega),Int.toNat_natCast,Nat.mul_one]
theorem fx.lenL' {h:ah} {w:Value} {vals:List (List Nat)} (R:fx h w vals):cH w=some (aq vals.length):=by
 obtain ⟨a,n,c,rfl,rfl,_⟩:=R
 rfl
structure DjEnv (h:ah) (w:Value) (y:Nat→Value):Prop where
 y2:y 2=w
 y3:y 3=ptr h.next 0
 y4:y 4=ptr (h.next+1) 0
 y6:y 6=ptr (h.next+2) 0
 y7:y 7=ptr (h.next+3) 0
section
variable {h:ah} {F:Nat→Prop} {v:Value} {S:Rf} {D:Dk} {J:Jn} {w:Value} {vals:List (List Nat)} (R:fx h w vals) (hlen:vals.length≤100000)
def nd1Inv (h gq:ah) (w:Value) (vals:List (List Nat)) (k:Nat) (y:Nat→Value) (g:ah):Prop:=
 ∃ i,i+k=vals.length∧y 11=aq i∧y 10=aq (aG (vals.take i))∧DjEnv h w y∧g=gq∧aG (vals.take i)≤199*i ∧ ∀ r∈vals.take i,r.length≤20000
def nd1Fin (h gq z2:ah) (w:Value) (vals:List (List Nat)) (ex:Ex) (y:Nat→Value) (g:ah):Prop:=
 DjEnv h w y∧((ex = .ret∧y 8 = .slice none 0 0∧y 9 = .int .i64 3∧g=z2 ∧ ∃ r∈vals,20000<r.length)∨(ex = .exit 0∧y 10=aq (aG vals)∧g=gq ∧ ∀ r∈vals,r.length≤20000))
include R hlen
theorem nd1_round {gq z1 z2:ah} (bJ:Old h gq) (k6:ch 6 (ptr h.next 0) gq=some (v,gq)) (k8:ch 8 (ptr (h.next+1) 0) gq=some (.agg J.rc.toArray,gq)) (f1:cf 6 (ptr (h.next+2) 0) v gq=some (undef,z1)) (f2:ch 8 (ptr (h.next+1) 0) z1=some (.agg J.rc.toArray,z1)) (f3:cf 8 (ptr (h.next+3) 0) (.agg J.rc.toArray) z1=some (undef,z2)) :
  ∀ k y g,nd1Inv h gq w vals k y g→cY 142 (nd1Inv h gq w vals) (nd1Fin h gq z2 w vals) k (iV CD y g):=by
 rintro k y g ⟨i,hik,bY,bM,en,rfl,hb,hall⟩
 have hg20 : ∀ n:Nat,bin Try.prog .gtr 3 (aq n) (.int .i64 20000)=some (.bool (decide (20000<n))):=fun n=>gtr3k n 20000
 unfold iV
 simp -implicitDefEqProofs only [bY,en.y2,R.lenL',fT,af,aj]
 by_cases hlt:i<vals.length
 ·have hi:vals[i]? = some vals[i]:=List.getElem?_eq_getElem hlt
  have hmem:vals[i]∈vals:=List.getElem_mem hlt
  have htk:=recsTot_take hi
  have htake:vals.take (i+1)=vals.take i ++ [vals[i]]:=by rw [List.take_add_one,hi];rfl
  obtain ⟨b,p,ai,ni,ci,e1,e2,e3,e4⟩:=R.atZ hi
  generalize vals[i]=r at *
  obtain rfl:=(aw e3).1
  have l1:=e2 g bJ
  have hll:cH (.slice ai r.length ci)=some (aq r.length):=rfl
  simp -implicitDefEqProofs only [decide_eq_true hlt,e1,l1,hll,hg20,af,aj]
  by_cases h20:20000<r.length
  ·simp -implicitDefEqProofs only [decide_eq_true h20,en.y3,en.y4,en.y6,en.y7,k6,k8,f1,f2,f3,ck_rc,Bool.and_true,af]
   exact cY.ret ⟨⟨en.y2,en.y3,en.y4,en.y6,en.y7⟩,.inl ⟨rfl,rfl,rfl,rfl,r,hmem,h20⟩⟩
  ·have hc:=fj (show r.length≤21000 by omega)
   simp -implicitDefEqProofs only [decide_eq_false h20,bM,e1,l1,hll,r16 r.length g (show r.length≤100000000 by omega),af,aj,gY (show aG (vals.take i)+aQ r.length≤9223372036854775807 by omega),ef (show i+1≤9223372036854775807 by omega)]
   refine cY.next (k-1) (by omega) ⟨i+1,by omega,rfl,by rw [htk];rfl,⟨en.y2,en.y3,en.y4,en.y6,en.y7⟩,rfl,by omega,?_⟩
   intro r' hr'
   rw [htake] at hr'
   rcases List.mem_append.1 hr' with h1|h1
   ·exact hall r' h1
   ·simp only [List.mem_singleton] at h1
    subst h1;omega
 ·simp -implicitDefEqProofs only [decide_eq_false hlt]
  have:i=vals.length:=by omega
  subst this
  rw [List.take_length] at bM hall
  exact cY.out 0 ⟨⟨en.y2,en.y3,en.y4,en.y6,en.y7⟩,.inr ⟨rfl,bM,rfl,hall⟩⟩
omit R hlen in
theorem Dj.keepP {g g':ah} {k8:dW} (x:Dj h g F v S k8) {B:Nat→Prop} (k:Kept g g' B) (hB : ∀ b,B b→h.next+4≤b∧dq g b):Dj h g' F v S k8:=by
 have nb : ∀ b,b<h.next+4 → ¬B b:=fun b hb hc=>by have:=(hB b hc).1;omega
 refine ⟨x.box.aC k (nb _ (by omega)),x.p6.aC k (nb _ (by omega)),k.dp x.j (nb _ (by omega)),x.r6.aC k (nb _ (by omega)),k.dp x.r8 (nb _ (by omega)),?_,x.bJ.bS k (fun c hc hb=>nb c (by omega) hb)⟩
 obtain ⟨a,c,rfl,y1,y2,y3⟩:=x.xr
 exact ⟨a,c,rfl,k.ea (fun b hb=>(hB b hb).2) y1,y2,y3⟩
omit R hlen in
theorem i64s_plain (l:List Nat) : ∀ u∈l.map aq,nat8 u=none:=by
 intro u hu
 obtain ⟨n,_,rfl⟩:=List.mem_map.1 hu
 rfl
variable (hF : ∀ b,F b→b<h.next) (ok:iD J D) (htot:aG vals≤D.ar) (hall : ∀ r∈vals,r.length≤20000) (hkn:J.known<18446744073709551615)
def rw2Inv (h:ah) (F:Nat→Prop) (N:Nat) (w:Value) (vals:List (List Nat)) (J:Jn) (D:Dk) (k:Nat) (y:Nat→Value) (g:ah):Prop:=
 ∃ i E ps S v,i+k=vals.length∧y 17=aq i∧y 14=aq (aG (vals.take i))∧y 12=aq J.az∧y 13 = .int .i64 J.a9∧DjEnv h w y∧cw g N 1 (y 15) ps.length (ps.map aq)∧ps.length=i∧Dj h g F v S J.rc∧h.next+4≤N∧N≤g.next∧g.n0≤h.next ∧
   Eqd E S∧Dok E∧E.n=D.n∧Dk.bL J.az (J.known+1) (vals.drop i) (aG (vals.take i)) E ps=Dk.bL J.az (J.known+1) vals 0 D []
def rw2Fin (h:ah) (F:Nat→Prop) (N:Nat) (w:Value) (vals:List (List Nat)) (J:Jn) (D:Dk) (ex:Ex) (y:Nat→Value) (g:ah):Prop:=
 ∃ S v,DjEnv h w y∧Eqd (Dk.bL J.az (J.known+1) vals 0 D []).2.1 S∧Dok (Dk.bL J.az (J.known+1) vals 0 D []).2.1∧(Dk.bL J.az (J.known+1) vals 0 D []).2.1.n=D.n ∧
   ((ex = .ret∧(Dk.bL J.az (J.known+1) vals 0 D []).1≠0∧y 8 = .slice none 0 0∧y 9 = .int .i64 (Dk.bL J.az (J.known+1) vals 0 D []).1∧ch 6 (ptr (h.next+2) 0) g=some (v,g)∧ch 8 (ptr (h.next+3) 0) g=some (.agg J.rc.toArray,g)∧cM g F v S∧Old h g) ∨
    (ex = .exit 2∧(Dk.bL J.az (J.known+1) vals 0 D []).1=0∧y 14=aq (aG vals)∧y 12=aq J.az∧y 13 = .int .i64 J.a9∧Dj h g F v S J.rc∧h.next+4≤N∧N≤g.next ∧
     cw g N 1 (y 15) (Dk.bL J.az (J.known+1) vals 0 D []).2.2.2.length ((Dk.bL J.az (J.known+1) vals 0 D []).2.2.2.map aq)))
include hF ok htot hall hkn
omit ok in
theorem rw2_round {N:Nat} : ∀ k y g,rw2Inv h F N w vals J D k y g→cY 142 (rw2Inv h F N w vals J D) (rw2Fin h F N w vals J D) k (eV CD y g):=by
 rintro k y g ⟨i,E,ps,S,v,hik,y17,bQ,bX,bR,en,own,hps,dj,hN4,hN,hn0,q,dok,hEn,hrw⟩
 have har:D.ar=(D.n-2)/2:=rfl
 have hEar:E.ar=D.ar:=by unfold Dk.ar;rw [hEn]
 have hsm:=dok.small
 unfold eV
 simp -implicitDefEqProofs only [y17,en.y2,R.lenL',fT,af,aj]
 by_cases hlt:i<vals.length
 ·obtain ⟨k',rfl⟩ : ∃ k',k=k'+1:=⟨k-1,by omega⟩
  have hi:vals[i]? = some vals[i]:=List.getElem?_eq_getElem hlt
  have hmem:vals[i]∈vals:=List.getElem_mem hlt
  have htk:=recsTot_take hi
  have htl:=recsTot_le vals (i+1)
  have hdrop:vals.drop i=vals[i]::vals.drop (i+1):=(List.getElem_cons_drop hlt).symm
  rw [hdrop] at hrw
  have hr20:=hall vals[i] hmem
  obtain ⟨b,p,ai,ni,ci,e1,e2,e3,e4⟩:=R.atZ hi
  generalize vals[i]=r at *
  obtain rfl:=(aw e3).1
  have l1:=e2 g dj.bJ
  have hll:cH (.slice ai r.length ci)=some (aq r.length):=rfl
  have m4:ba (ptr (h.next+1) 4) g=some (.int .u64 (J.known:Int),g):=aN dj.j rfl rfl
  have hadd:bin Try.prog .add 58 (.int .u64 (J.known:Int)) (.int .u64 1)=some (.int .u64 ((J.known+1:Nat):Int)):=by
   rw [dL,eQ (by omega) (by omega)]
   exact congrArg (fun z=>some (Value.int .u64 z)) (by omega)
  have hrw2:(if (E.bU J.az (J.known+1) (aG (vals.take i)) r).1=0 then Dk.bL J.az (J.known+1) (vals.drop (i+1)) (aG (vals.take i)+aQ r.length) (E.bU J.az (J.known+1) (aG (vals.take i)) r).2 (ps ++ [aG (vals.take i)]) else ((E.bU J.az (J.known+1) (aG (vals.take i)) r).1,(E.bU J.az (J.known+1) (aG (vals.take i)) r).2,aG (vals.take i),ps))=Dk.bL J.az (J.known+1) vals 0 D []:=hrw
  obtain ⟨v',S',g1,e69,xr1,q1,d1,n1,o1⟩:=r69 (h0:=g) (F:=F) (D:=E) (ak:=J.az) (gen:=J.known+1) (at_:=aG (vals.take i)) (c:=ci) (fun b hb=>Nat.lt_of_lt_of_le (hF b hb) dj.bJ.next) J.gl (by omega) (Old.bytes dj.bJ e3) e4 (by omega) (by omega) dj.xr q dok
  obtain ⟨g2,s2,dj2,k12⟩:=dj.store o1 xr1
  generalize hW:E.bU J.az (J.known+1) (aG (vals.take i)) r=W at *
  have hx0 : ∀ a b:Value,aD (.tuple #[a,b]) 0=some a:=fun _ _=>rfl
  have hx1 : ∀ a b:Value,aD (.tuple #[a,b]) 1=some b:=fun _ _=>rfl
  simp -implicitDefEqProofs only [decide_eq_true hlt,en.y3,en.y4,dj.box.ld,bX,ax,Nat.zero_add,m4,hadd,bQ,e1,l1,e69,hx0,hx1,s2,af,aj,dG]
  have hdj2:=dj2.bJ.n0
  by_cases hz:W.1=0
  ·rw [if_pos hz] at hrw2
   have own2:cw g2 N 1 (y 15) ps.length (ps.map aq):=(own.aC o1 (fun _ _ h=>h)).aC k12 (fun b hb e=>by have:=own.base hb;omega)
   have n12:=o1.next
   have n23:=k12.next
   have oA:Old g2 (g2.alloc [aq (aG (vals.take i))]):=Kept.alloc _ _ _
   have gA:(g2.alloc [aq (aG (vals.take i))]).get g2.next=some [aq (aG (vals.take i))]:=by rw [ah.aE,if_pos rfl]
   have hbs:cX 1 (.int .i64 0) 1 [(0,aq (aG (vals.take i)))] g2=some (.slice (some ⟨g2.next,0,none⟩) 1 1,g2.alloc [aq (aG (vals.take i))]):=rfl
   have own3:=own2.aC oA (fun _ _ h=>h)
   have dj3:=dj2.aC oA
   have nA:=oA.next
   have n0A:=oA.n0
   generalize hgA:g2.alloc [aq (aG (vals.take i))]=g3 at *
   have hfA:bW 1 1 (.slice (some ⟨g2.next,0,none⟩) 1 1) g3=some [aq (aG (vals.take i))]:=by
    simp only [bW,gA]
    rfl
   have hn0':g3.n0≤h.next:=by rw [n0A,hdj2];exact h.aH
   obtain ⟨u,g4,q1',q2',q3',_⟩:=im (by_:=8) (x := .slice (some ⟨g2.next,0,none⟩) 1 1) (m:=1) own3 (by omega) (by omega) (by decide) rfl hfA rfl rfl rfl (by omega) (by omega)
   have dj4:=dj3.keepP q3' (fun b hb=>⟨by have:=own3.base hb.1;omega,⟨_,hb.2,i64s_plain ps⟩⟩)
   have n34:=q3'.next
   have hcl:=fj (show r.length≤21000 by omega)
   have hmap:(ps ++ [aG (vals.take i)]).map aq=ps.map aq ++ [aq (aG (vals.take i))]:=by simp
   have hl1:=e2 g4 dj4.bJ
   simp -implicitDefEqProofs only [hz,bne_self_eq_false,af,hbs,q1',e1,hl1,hll,aj,r16 r.length g4 (show r.length≤100000000 by omega),gY (show aG (vals.take i)+aQ r.length≤9223372036854775807 by omega),ef (show i+1≤9223372036854775807 by omega)]
   refine cY.next k' (by omega) ⟨i+1,W.2,ps ++ [aG (vals.take i)],S',v',by omega,rfl,by rw [htk];rfl,bX,bR,⟨en.y2,en.y3,en.y4,en.y6,en.y7⟩,?_,by rw [List.length_append,hps];rfl,dj4,hN4,by omega,by rw [q3'.n0];exact hn0',q1,d1,n1.trans hEn,?_⟩
   ·rw [hmap,List.length_append];exact q2'
   ·rw [htk];exact hrw2
  ·rw [if_neg hz] at hrw2
   have hne:(W.1 != 0)=true:=by simpa using hz
   obtain ⟨k6,k8,z1,z2,f1,f2,f3,f4,f5,f6,f7,_⟩:=dj2.fin rfl (iP J) (fC J)
   simp -implicitDefEqProofs only [hne,en.y6,en.y7,k6,k8,f1,f2,f3,ck_rc,Bool.and_true,af]
   refine cY.ret ?_
   unfold rw2Fin
   rw [←hrw2]
   exact ⟨S',v',⟨en.y2,en.y3,en.y4,en.y6,en.y7⟩,q1,d1,n1.trans hEn,.inl ⟨rfl,hz,rfl,rfl,f4,f5,f6,f7⟩⟩
 ·simp -implicitDefEqProofs only [decide_eq_false hlt]
  have:i=vals.length:=by omega
  have hk0:k=0:=by omega
  subst hk0
  rw [this,List.drop_length,List.take_length] at hrw
  rw [this,List.take_length] at bQ
  have hrw:(0,E,aG vals,ps)=Dk.bL J.az (J.known+1) vals 0 D []:=hrw
  refine cY.out 2 ?_
  unfold rw2Fin
  rw [←hrw]
  exact ⟨S,v,⟨en.y2,en.y3,en.y4,en.y6,en.y7⟩,q,dok,hEn,.inr ⟨rfl,rfl,bQ,bX,bR,dj,hN4,hN,own⟩⟩
def Rw2 (h:ah) (F:Nat→Prop) (J:Jn) (D:Dk) (vals:List (List Nat)) (o:Out):Prop:=
 ∃ v' S' u h',o=some (.tuple #[v',.agg (J.rewrite D vals).2.2.1.rc.toArray,u,.int .i64 (J.rewrite D vals).1],h')∧cM h' F v' S'∧Eqd (J.rewrite D vals).2.1 S'∧Old h h'∧cw h' h.next 1 u (J.rewrite D vals).2.2.2.length ((J.rewrite D vals).2.2.2.map aq)
omit R hlen hF ok htot hall hkn in
theorem rw2_res {z2:ah} {y:Nat→Value} {J':Jn} {u:Value} {e:Int} (en6:y 6=ptr (h.next+2) 0) (en7:y 7=ptr (h.next+3) 0) (y8:y 8=u) (y9:y 9 = .int .i64 e) (f4:ch 6 (ptr (h.next+2) 0) z2=some (v,z2)) (f5:ch 8 (ptr (h.next+3) 0) z2=some (.agg J'.rc.toArray,z2)) :
  au Try.prog Try.f40.results.toList (aY 142 y) z2=some (.tuple #[v,.agg J'.rc.toArray,u,.int .i64 e],z2):=by
 have:=res_c4 results40 (n:=142) (by decide) (by decide) (by decide) (by decide) ld63 ld70 y (h:=z2) (v:=v) (w := .agg J'.rc.toArray) (by rw [en6];exact f4) (by rw [en7];exact f5)
 rw [y8,y9] at this
 exact this
omit R hlen ok in
set_option maxRecDepth 100000 in
theorem rw2_end (hl:J.live D=true) {N:Nat} {y:Nat→Value} {g:ah} (en:DjEnv h w y) (q:Eqd (Dk.bL J.az (J.known+1) vals 0 D []).2.1 S) (dok:Dok (Dk.bL J.az (J.known+1) vals 0 D []).2.1)
  (hz:(Dk.bL J.az (J.known+1) vals 0 D []).1=0) (bQ:y 14=aq (aG vals)) (bX:y 12=aq J.az) (bR:y 13 = .int .i64 J.a9) (dj:Dj h g F v S J.rc) (hN4:h.next+4≤N) (hN:N≤g.next)
  (own:cw g N 1 (y 15) (Dk.bL J.az (J.known+1) vals 0 D []).2.2.2.length ((Dk.bL J.az (J.known+1) vals 0 D []).2.2.2.map aq)):Rw2 h F J D vals (t40k40_22 CD y g):=by
 have hany:(vals.any fun r=>decide (20000<r.length))=false:=by
  rw [List.any_eq_false]
  intro r hr
  have:=hall r hr
  simp;omega
 have hful : ¬(D.ar<aG vals∨J.known=18446744073709551615):=by omega
 have hR:J.rewrite D vals=if ((Dk.bL J.az (J.known+1) vals 0 D []).2.1.write J.a9 (bV (J.known+1) J.az)).1=0 then
   (0,((Dk.bL J.az (J.known+1) vals 0 D []).2.1.write J.a9 (bV (J.known+1) J.az)).2,
     { aU:=J.aU,slot:=J.a9,ak:=J.az,gen:=J.known+1,known:=J.known+1,ready:=true,fin:=aG vals },(Dk.bL J.az (J.known+1) vals 0 D []).2.2.2)
  else (((Dk.bL J.az (J.known+1) vals 0 D []).2.1.write J.a9 (bV (J.known+1) J.az)).1,((Dk.bL J.az (J.known+1) vals 0 D []).2.1.write J.a9 (bV (J.known+1) J.az)).2,J,[]):=by
  unfold Jn.rewrite
  rw [hl,if_neg (by decide),hany,if_neg (by decide),if_neg hful,if_pos hz]
 unfold Rw2
 rw [hR]
 generalize hWW:Dk.bL J.az (J.known+1) vals 0 D []=WW at *
 have m4 : ∀ {z:ah},z.get (h.next+1)=some J.rc→ba (ptr (h.next+1) 4) z=some (.int .u64 (J.known:Int),z):=fun e=>aN e rfl rfl
 have hadd:bin Try.prog .add 58 (.int .u64 (J.known:Int)) (.int .u64 1)=some (.int .u64 ((J.known+1:Nat):Int)):=by
  rw [dL,eQ (by omega) (by omega)]
  exact congrArg (fun z=>some (Value.int .u64 z)) (by omega)
 obtain ⟨ub,g1,e71,ob,o1⟩:=r71 g (gen:=J.known+1) (ak:=J.az) (by omega) J.gl
 obtain ⟨ab,cb,rfl,t1,_,_,_⟩:=ob.bytes
 have old1:=dj.bJ.trans o1
 have hil:S.aW.length≤1000000:=by rw [q.aW,dok.aW];have:=dok.small;omega
 obtain ⟨v',g2,e70,xr2,o2⟩:=r70 (cb:=cb) (dj.xr.bJ o1) (fun b hb=>Nat.lt_of_lt_of_le (hF b hb) old1.next) hil q.kp J.a9 t1
 obtain ⟨qe,qq⟩:=q.write dok.aW dok.after J.a9 (bV (J.known+1) J.az)
 rw [qe] at e70
 generalize hS':(S.write J.a9 (bV (J.known+1) J.az)).2=S' at *
 obtain ⟨g3,s3,dj3,k3⟩:=dj.store (o1.trans o2) xr2
 have l61:=(dj.aC o1).box.ld
 have own3:=(own.aC (o1.trans o2) (fun _ _ h=>h)).aC k3 (fun b hb e=>by have:=own.base hb;omega)
 have hx0 : ∀ a b:Value,aD (.tuple #[a,b]) 0=some a:=fun _ _=>rfl
 have hx1 : ∀ a b:Value,aD (.tuple #[a,b]) 1=some b:=fun _ _=>rfl
 unfold t40k40_22
 simp -implicitDefEqProofs only [en.y3,en.y4,dj.box.ld,bX,bR,ax,Nat.zero_add,m4 dj.j,hadd,e71,e70,hx0,hx1,s3,l61,ck_rf dj.xr,Bool.and_true,af,aj,dG]
 generalize hW:WW.2.1.write J.a9 (bV (J.known+1) J.az)=W at *
 have low : ∀ {z:ah} {n:Nat} {u:Value} {cs:List Value},cw z N 1 u n cs→cw z h.next 1 u n cs:=by
  intro z n u cs o
  refine ⟨o.1,o.2.1,o.2.2.1,?_⟩
  rcases o.2.2.2 with h|⟨b,s,j1,j2,j3⟩
  ·exact .inl h
  ·exact .inr ⟨b,s,j1,by omega,j3⟩
 by_cases hw:W.1=0
 ·rw [if_pos hw]
  obtain ⟨g4,s4,dj4,k4⟩:=dj3.setJ (i:=1) (u := .int .i64 J.a9) (k9:=({ J with slot:=J.a9 }:Jn).rc) (gV _) (by show 1<8;decide) rfl rfl rfl
  obtain ⟨g5,s5,dj5,k5⟩:=dj4.setJ (i:=3) (u:=aq J.az) (k9:=({ J with slot:=J.a9,ak:=J.az }:Jn).rc) (gV _) (by show 3<8;decide) rfl rfl rfl
  obtain ⟨g6,s6,dj6,k6⟩:=dj5.setJ (i:=2) (u := .int .u64 ((J.known+1:Nat):Int)) (k9:=({ J with slot:=J.a9,ak:=J.az,gen:=J.known+1 }:Jn).rc) (gV _) (by show 2<8;decide) rfl rfl rfl
  obtain ⟨g7,s7,dj7,k7⟩:=dj6.setJ (i:=4) (u := .int .u64 ((J.known+1:Nat):Int)) (k9:=({ J with slot:=J.a9,ak:=J.az,gen:=J.known+1,known:=J.known+1 }:Jn).rc) (gV _) (by show 4<8;decide) rfl rfl rfl
  obtain ⟨g8,s8,dj8,k8⟩:=dj7.setJ (i:=5) (u := .bool true) (k9:=({ J with slot:=J.a9,ak:=J.az,gen:=J.known+1,known:=J.known+1,ready:=true }:Jn).rc) (gV _) (by show 5<8;decide) rfl rfl rfl
  obtain ⟨g9,s9,dj9,k9⟩:=dj8.setJ (i:=6) (u:=aq (aG vals)) (k9:=({ aU:=J.aU,slot:=J.a9,ak:=J.az,gen:=J.known+1,known:=J.known+1,ready:=true,fin:=aG vals }:Jn).rc) (gV _) (by show 6<8;decide) rfl rfl rfl
  obtain ⟨p6,p8,z1,z2,f1,f2,f3,f4,f5,f6,f7,f8⟩:=dj9.fin rfl (iP _) (fC _)
  have kk:Kept g3 g9 (fun c=>c=h.next+1):=((((k4.bS k5 (fun _ _ e=>e)).bS k6 (fun _ _ e=>e)).bS k7 (fun _ _ e=>e)).bS k8 (fun _ _ e=>e)).bS k9 (fun _ _ e=>e)
  have own9:=(own3.aC kk (fun b hb e=>by have:=own3.base hb;omega)).aC f8 (fun b hb e=>by have:=own3.base hb;omega)
  simp -implicitDefEqProofs only [hw,bne_self_eq_false,af,ax,Nat.zero_add,m4 dj3.j,hadd,aj,s4,s5,s6,s7,s8,s9,bQ,p6,p8,en.y6,en.y7,f1,f2,f3,ck_rc,Bool.and_true]
  exact ⟨v',S',y 15,z2,rw2_res (h:=h) (e:=0) en.y6 en.y7 rfl rfl f4 f5,f6,qq,f7,low own9⟩
 ·rw [if_neg hw]
  have hne:(W.1 != 0)=true:=by simpa using hw
  obtain ⟨p6,p8,z1,z2,f1,f2,f3,f4,f5,f6,f7,_⟩:=dj3.fin rfl (iP J) (fC J)
  simp -implicitDefEqProofs only [hne,p6,p8,en.y6,en.y7,f1,f2,f3,ck_rc,Bool.and_true,af]
  exact ⟨v',S',.slice none 0 0,z2,rw2_res (h:=h) en.y6 en.y7 rfl rfl f4 f5,f6,qq,f7,cw.nil _ _ _⟩
end
end Go.Proofs.Ytcmfgmhadeeieaa

namespace Go.Proofs.Ytcmfgmhadeeieaa
open Go Go.Abs
theorem any_false {vals:List (List Nat)} (h : ∀ r∈vals,r.length≤20000):(vals.any fun r=>decide (20000<r.length))=false:=by
 rw [List.any_eq_false]
 intro r hr
 have:=h r hr
 simp;omega
set_option maxRecDepth 100000 in
theorem r40 {h:ah} {F:Nat→Prop} {v:Value} {S:Rf} {D:Dk} {J:Jn} {w:Value} {vals:List (List Nat)} (x:cM h F v S) (hF : ∀ b,F b→b<h.next) (q:Eqd D S) (dok:Dok D) (ok:iD J D) (R:fx h w vals) (hlen:vals.length≤100000) :
  Rw2 h F J D vals (CD 40 [v,.agg J.rc.toArray,w] h):=by
 have har:D.ar=(D.n-2)/2:=rfl
 have hsm:=dok.small
 obtain ⟨g,g2,g3,g4,b1,b2,b3,b4,dj⟩:=dj4 x (iP J)
 have m7:ba (ptr (h.next+1) 7) g4=some (.bool false,g4):=aN dj.j rfl rfl
 have l6:=dj.box.ld
 have l8:=cZ (n:=8) dj.j rfl (fC J)
 obtain ⟨q1,e68,o1⟩:=r68 dj.xr q J
 have dj1:=dj.aC o1
 suffices key:Rw2 h F J D vals (t40 CD v (.agg J.rc.toArray) w h) by
  obtain ⟨v',S',u,h',e,r⟩:=key
  exact ⟨v',S',u,h',aO is40 rfl ((t40_eq _ _ _ _ _).trans e),r⟩
 obtain ⟨k6,k8,z1,z2,f1,f2,f3,f4,f5,f6,f7,_⟩:=dj1.fin rfl (iP J) (fC J)
 unfold t40
 simp -implicitDefEqProofs only [b1,b2,b3,b4,af,ax,Nat.zero_add,aj,m7,l6,l8,e68,cC]
 cases hL:J.live D with
 |false=>
  have hR:J.rewrite D vals=(9,D,J,[]):=by unfold Jn.rewrite;rw [hL,if_pos rfl]
  unfold Rw2
  rw [hR]
  simp -implicitDefEqProofs only [Bool.not_false,af,k6,k8,f1,f2,f3,ck_rc,Bool.and_true]
  exact ⟨v,S,.slice none 0 0,z2,rw2_res (h:=h) (J':=J) (e:=9) rfl rfl rfl rfl f4 f5,f6,q,f7,cw.nil _ _ _⟩
 |true=>
  simp -implicitDefEqProofs only [Bool.not_true,af]
  refine cn (Q:=fun o=>Rw2 h F J D vals o) (cg (t40l40_1111010_eq CD) (nd1_round (J:=J) R hlen dj1.bJ k6 k8 f1 f2 f3) vals.length (by have:rounds=18446744073709551616:=rfl;omega)
   ⟨0,Nat.zero_add _,rfl,rfl,⟨rfl,rfl,rfl,rfl,rfl⟩,rfl,Nat.le_refl _,by intro r hr;rw [List.take_zero] at hr;cases hr⟩) ?_
  rintro ex y g ⟨en,⟨rfl,y8,y9,rfl,r,hr,h20⟩|⟨rfl,bM,rfl,hall⟩⟩
  ·have hany:(vals.any fun r=>decide (20000<r.length))=true:=by
    rw [List.any_eq_true]
    exact ⟨r,hr,by simpa using h20⟩
   have hR:J.rewrite D vals=(3,D,J,[]):=by unfold Jn.rewrite;rw [hL,if_neg (by decide),if_pos hany]
   unfold Rw2
   rw [hR,iG]
   exact ⟨v,S,.slice none 0 0,g,rw2_res (h:=h) (J':=J) en.y6 en.y7 y8 y9 f4 f5,f6,q,f7,cw.nil _ _ _⟩
  ·obtain ⟨q2,e46,o2⟩:=r46 dj1.xr q.aW dok.aW dok.four hsm
   have dj2:=dj1.aC o2
   have m4:ba (ptr (h.next+1) 4) q2=some (.int .u64 (J.known:Int),q2):=aN dj2.j rfl rfl
   obtain ⟨k6,k8,z1,z2,f1,f2,f3,f4,f5,f6,f7,_⟩:=dj2.fin rfl (iP J) (fC J)
   have hR8:D.ar<aG vals∨J.known=18446744073709551615→J.rewrite D vals=(8,D,J,[]):=fun hc=>by
    unfold Jn.rewrite
    rw [hL,if_neg (by decide),any_false hall,if_neg (by decide),if_pos hc]
   simp -implicitDefEqProofs only [bA,b40_exit,t40k40_10_eq]
   unfold t40k40_10
   simp -implicitDefEqProofs only [bM,en.y3,en.y4,en.y6,en.y7,dj1.box.ld,e46,gtr3,af,aj,ay]
   by_cases c1:D.ar<aG vals
   ·unfold Rw2
    rw [hR8 (.inl c1)]
    simp -implicitDefEqProofs only [decide_eq_true c1,sf,aF,af,if_true,k6,k8,f1,f2,f3,ck_rc,Bool.and_true]
    exact ⟨v,S,.slice none 0 0,z2,rw2_res (h:=h) (J':=J) (e:=8) en.y6 en.y7 rfl rfl f4 f5,f6,q,f7,cw.nil _ _ _⟩
   have heq:bin Try.prog .eql 58 (.int .u64 (J.known:Int)) (.int .u64 18446744073709551615)=some (.bool (decide (J.known=18446744073709551615))):=by
    rw [eU]
    congr 2
    by_cases hk:J.known=18446744073709551615
    ·rw [hk];rfl
    ·rw [decide_eq_false hk]
     simp;omega
   by_cases c2:J.known=18446744073709551615
   ·unfold Rw2
    rw [hR8 (.inr c2)]
    simp -implicitDefEqProofs only [decide_eq_false c1,beq_self_eq_true,aA,ax,Nat.zero_add,m4,heq,decide_eq_true c2,af,aj,Bool.false_eq_true,if_false,k6,k8,f1,f2,f3,ck_rc,Bool.and_true]
    exact ⟨v,S,.slice none 0 0,z2,rw2_res (h:=h) (J':=J) (e:=8) en.y6 en.y7 rfl rfl f4 f5,f6,q,f7,cw.nil _ _ _⟩
   have hkn:J.known<18446744073709551615:=by have:=ok.known;omega
   have hlow:h.next+4≤q2.next:=by
    have:=q2.aR dj2.r8
    omega
   have oA:Old q2 (q2.alloc []):=Kept.alloc _ _ _
   have nA:(q2.alloc []).next=q2.next+1:=ah.aS ..
   have hbs:cX 1 (.int .i64 0) 0 [] q2=some (.slice (some ⟨q2.next,0,none⟩) 0 0,q2.alloc []):=rfl
   have dj3:=dj2.aC oA
   have L2 : ∀ y':Nat→Value,DjEnv h w y'→y' 12=aq J.az→y' 13 = .int .i64 J.a9→y' 14=aq 0→y' 17=aq 0→y' 15 = .slice (some ⟨q2.next,0,none⟩) 0 0 →
     Rw2 h F J D vals (dD (iter (aI Try.prog CD (partOf Try.f40 [1,1,1,1,1,1,1,1,1,1,0,1,0,0])) rounds (aY 142 y') (q2.alloc [])) (au Try.prog Try.f40.results.toList) (b40_24 CD)):=by
    intro y' en' bX bR bQ y17 y15
    refine cn (Q:=fun o=>Rw2 h F J D vals o) (cg (t40l40_1111111111010_eq CD) (rw2_round (F:=F) (D:=D) (J:=J) R hlen hF (by omega) hall hkn (N:=q2.next)) vals.length (by have:rounds=18446744073709551616:=rfl;omega)
     ⟨0,D,[],S,v,Nat.zero_add _,y17,bQ,bX,bR,en',by rw [y15];exact cw.empty _ (Nat.le_refl _),rfl,dj3,hlow,by omega,by rw [dj3.bJ.n0];exact h.aH,q,dok,rfl,rfl⟩) ?_
    rintro ex z g ⟨S',v',ez,qz,dz,nz,⟨rfl,hne,z8,z9,c4,c5,c6,c7⟩|⟨rfl,hz,z14,z12,z13,djz,h4z,hNz,own⟩⟩
    ·have hful : ¬(D.ar<aG vals∨J.known=18446744073709551615):=by omega
     have hR:J.rewrite D vals=((Dk.bL J.az (J.known+1) vals 0 D []).1,(Dk.bL J.az (J.known+1) vals 0 D []).2.1,J,[]):=by
      unfold Jn.rewrite
      rw [hL,if_neg (by decide),any_false hall,if_neg (by decide),if_neg hful,if_neg hne]
     unfold Rw2
     rw [hR,iG]
     exact ⟨v',S',.slice none 0 0,g,rw2_res (h:=h) (J':=J) ez.y6 ez.y7 z8 z9 c4 c5,c6,qz,c7,cw.nil _ _ _⟩
    ·simp -implicitDefEqProofs only [bA,b40_exit2,t40k40_22_eq]
     exact rw2_end hF (by omega) hall hkn hL ez qz dz hz z14 z12 z13 djz h4z hNz own
   have m1:ba (ptr (h.next+1) 1) q2=some (.int .i64 J.slot,q2):=aN dj2.j rfl rfl
   have m3:ba (ptr (h.next+1) 3) q2=some (aq J.ak,q2):=aN dj2.j rfl rfl
   have hgeq:bin Try.prog .geq 3 (.int .i64 J.slot) (.int .i64 0)=some (.bool (decide (J.slot≥0))):=eR ..
   simp -implicitDefEqProofs only [decide_eq_false c1,beq_self_eq_true,aA,ax,Nat.zero_add,m4,heq,decide_eq_false c2,af,aj,Bool.false_eq_true,if_false,m1,hgeq]
   by_cases c3:J.slot≥0
   ·have hsa:bin Try.prog .sub 3 (.int .i64 1) (aq J.ak)=some (aq (1-J.ak)):=sub3 (a:=1) ok.ak (by omega)
    have hss:bin Try.prog .sub 3 (.int .i64 1) (.int .i64 J.slot)=some (.int .i64 (1-J.slot)):=by
     rw [gZ,bD (by have:=ok.slot;omega) (by have:=ok.slot;omega)]
    have ha:J.az=1-J.ak:=by unfold Jn.az;rw [if_pos (by omega)]
    have hs:J.a9=1-J.slot:=by unfold Jn.a9;rw [if_pos (by omega)]
    simp -implicitDefEqProofs only [decide_eq_true c3,ax,Nat.zero_add,m3,m1,hsa,hss,hbs,af,aj]
    exact L2 _ ⟨en.y2,en.y3,en.y4,en.y6,en.y7⟩ (by rw [ha];rfl) (by rw [hs];rfl) rfl rfl rfl
   ·have ha:J.az=0:=by unfold Jn.az;rw [if_neg (by omega)]
    have hs:J.a9=0:=by unfold Jn.a9;rw [if_neg (by omega)]
    simp -implicitDefEqProofs only [decide_eq_false c3,hbs,af,aj]
    exact L2 _ ⟨en.y2,en.y3,en.y4,en.y6,en.y7⟩ (by rw [ha];rfl) (by rw [hs];rfl) rfl rfl rfl
end Go.Proofs.Ytcmfgmhadeeieaa

namespace Go.Proofs.Ytcmfgmhadeeieaa
open Go Go.Abs
theorem is37:cA Try.prog 37 Try.f37:=⟨by kernel_rfl,by kernel_rfl,by kernel_rfl,by kernel_rfl⟩
theorem results37:Try.f37.results.toList = [.cell 2 63,.tmp 3]:=by kernel_rfl
theorem cw.at2 {h:ah} {N:Nat} {v:Value} {len:Nat} {cells:List Value} (o:cw h N 2 v len cells) {i:Nat} (hi:i<len) : ∃ b,cd 2 v (aq i)=some (ptr b (i*2))∧h.get b=some cells:=by
 obtain ⟨_,_,_,⟨rfl,h4⟩|⟨b,s,rfl,_,⟨_,h4⟩|⟨rfl,h5⟩⟩⟩:=o
 ·omega
 ·omega
 ·refine ⟨b,?_,h5⟩
  unfold cd
  simp only [aq]
  rw [if_pos (by omega),Int.toNat_natCast,Nat.zero_add]
theorem cw.cH {h:ah} {N size:Nat} {v:Value} {len:Nat} {cells:List Value} (o:cw h N size v len cells):cH v=some (aq len):=by
 obtain ⟨_,_,_,⟨rfl,h4⟩|⟨b,s,rfl,_⟩⟩:=o
 ·subst h4;rfl
 ·rfl
theorem rem128 (n:Nat) (h:n≤100000000):bin Try.prog .rem 3 (aq n) (.int .i64 128)=some (aq (n%128)):=by
 unfold aq
 rw [bin_rem _ _ _ _ _ (by decide)]
 have:((n:Nat):Int).tmod 128=((n%128:Nat):Int):=by rw [Int.tmod_eq_emod_of_nonneg (by omega)];omega
 rw [this]
theorem neq30 (a:Nat):bin Try.prog .neq 3 (aq a) (.int .i64 0)=some (.bool (!(a==0))):=bin3n a 0
def Rf.of (l:List Nat):Rf:=⟨l,false,false,0,0,0⟩
theorem r37 {h:ah} {a:Option Addr} {n c:Nat} {l:List Nat} (hs:av a n h=some l) (h1:n%128=0) (h2:512≤n) (h3:n≤524288) : ∃ v' h',CD 37 [.slice a n c] h=some (.tuple #[v',.int .i64 0],h')∧cM h' (fun c=>c<h.next) v' (Rf.of l)∧Old h h':=by
 have hll':=(aw hs).1
 have o1:Old h (h.alloc cy):=Kept.alloc _ _ _
 have g1:(h.alloc cy).get h.next=some cy:=by rw [ah.aE,if_pos rfl]
 have hnew:dB [(.slice none 0 0),(.bool false),(.bool false),(.int .i64 0),(.int .i64 0),(.int .i64 0)] h=some (ptr h.next 0,h.alloc cy):=rfl
 have n1:(h.alloc cy).next=h.next+1:=ah.aS ..
 have n01:(h.alloc cy).n0≤h.next:=h.aH
 generalize h.alloc cy=g at *
 have oA:Old g (g.alloc []):=Kept.alloc _ _ _
 have nA:(g.alloc []).next=g.next+1:=ah.aS ..
 have hbs:cX 1 (.int .u8 0) 0 [] g=some (.slice (some ⟨g.next,0,none⟩) 0 0,g.alloc []):=rfl
 have own0:dr (g.alloc []) g.next (.slice (some ⟨g.next,0,none⟩) 0 0) []:=⟨cw.empty _ (Nat.le_refl _),by simp⟩
 obtain ⟨v',g2,f1,f2,f3,f4⟩:=dI (c:=c) own0 (by rw [oA.n0];omega) (by omega) (Old.bytes (o1.trans oA) hs) (by simp;omega)
 rw [List.nil_append] at f2
 have hbase:cF (.slice (some ⟨g.next,0,none⟩) 0 0)=some g.next:=rfl
 have g12:=f3.dp (Old.get oA g1) (fun hb=>by rw [hbase] at hb;have hb:=Option.some.inj hb;omega)
 have oo:Old h g2:=(o1.trans oA).bS f3 (fun c hc hb=>by rw [hbase] at hb;have hb:=Option.some.inj hb;omega)
 obtain ⟨aa,cc,rfl,t1,t2,t3,t4⟩:=f2.bytes
 obtain ⟨s1,s2,s3,s4⟩:=iK (n:=6) g12 (by rw [oo.n0];exact h.aH) rfl (k':=(Rf.of l).cells (.slice aa l.length cc)) rfl (gK _ _ _ _) (bH _ _ _ _)
 have t5:=s4.ea (fun c hc=>by subst hc;exact z6_plain g12) t1
 have oo2:=oo.bS s4 (fun y hy e=>by omega)
 have hbl:fU [(.slice none 0 0),(.bool false),(.bool false),(.int .i64 0),(.int .i64 0),(.int .i64 0)] [(0,1,.slice aa l.length cc)]=some (.agg ((Rf.of l).cells (.slice aa l.length cc)).toArray):=rfl
 have hll:cH (.slice a n c)=some (aq n):=rfl
 have l512:bin Try.prog .lss 3 (aq n) (.int .i64 512)=some (.bool (decide (n<512))):=fT n 512
 have gmax:bin Try.prog .gtr 3 (aq n) (.int .i64 524288)=some (.bool (decide (524288<n))):=gtr3 n 524288
 have hb:(n%128==0)=true:=by rw [h1];rfl
 refine ⟨_,_,aO is37 rfl ((t37_eq _ _ _).trans ?_),⟨aa,cc,rfl,t5,t2,fun y hy _ hc=>by have:=t3 y hy;omega⟩,oo2⟩
 unfold t37
 simp -implicitDefEqProofs only [hnew,af,hll,aj,rem128 n (by omega),neq30,ay,hb,Bool.not_true,beq_self_eq_true,aA,l512,Bool.false_eq_true,if_false,decide_eq_false (show ¬n<512 by omega),gmax,decide_eq_false (show ¬524288<n by omega),hbs,f1,hbl,s1]
 exact iF (rs:=Try.f37.results.toList) (n:=23) results37 (by decide) (by decide) _ s2
end Go.Proofs.Ytcmfgmhadeeieaa

namespace Go.Proofs.Ytcmfgmhadeeieaa
open Go Go.Abs
theorem X48:XX 48=s48:=rfl
theorem X36:XX 36=s36:=rfl
theorem cM.keepP {h h':ah} {F B:Nat→Prop} {v:Value} {S:Rf} (x:cM h F v S) (k:Kept h h' B) (hB : ∀ b,B b→dq h b):cM h' F v S:=by
 obtain ⟨a,c,rfl,h1,h2,h3⟩:=x
 exact ⟨a,c,rfl,k.ea hB h1,h2,h3⟩
end Go.Proofs.Ytcmfgmhadeeieaa

namespace Go.Proofs.Ytcmfgmhadeeieaa
open Go Go.Abs
theorem r45_nil {h:ah} {F:Nat→Prop} {v:Value} {S:Rf} (x:cM h F v S) : ∃ h',CD 45 [.agg (.pointer none::iU).toArray,v] h=some (.bool true,h')∧Old h h':=by
 have x':=x
 have oP:Old h (h.alloc (.pointer none::iU)):=Kept.alloc _ _ _
 have gP:(h.alloc (.pointer none::iU)).get h.next=some (.pointer none::iU):=by rw [ah.aE,if_pos rfl]
 have bP:=box_at h (.pointer none::iU) rfl
 have nP:(h.alloc (.pointer none::iU)).next=h.next+1:=ah.aS ..
 generalize h.alloc (.pointer none::iU)=q0 at *
 obtain ⟨a,c,g,rfl,b1,b2,b3,b4,_⟩:=dZ (x.bJ oP)
 rw [nP] at b1 b2
 have oo:=oP.trans b3
 have gP1:=Old.get b3 gP
 have l6:=gU b2 rfl (bH _ _ _ _)
 have l8:ch 8 (ptr h.next 1) g=some (.agg iU.toArray,g):=ldN_at (n:=8) (o:=1) gP1 (by show 1+8≤9;omega) rfl
 obtain ⟨g1,e68,o1⟩:=r68_miss (x'.bJ oo)
 have m0:ba (ptr h.next 0) g1=some (.pointer none,g1):=aN (Old.get o1 gP1) rfl rfl
 have q580:bin Try.prog .eql 58 (.int .u64 0) (.int .u64 0)=some (.bool true):=by rw [eU];rfl
 have q30:bin Try.prog .eql 3 (aq 0) (.int .i64 0)=some (.bool true):=eql3 0 0
 refine ⟨g1,aO is45 rfl ((t45_eq _ _ _ _).trans ?_),oo.trans o1⟩
 unfold t45
 simp -implicitDefEqProofs only [bP,b1,af,l6,ax,Nat.zero_add,aj,l8,e68,cC,Bool.not_false,m0,r34_nil,q580,ay,beq_self_eq_true,aA,r22_nil,q30,if_true,r26_nil,r74_nil]
end Go.Proofs.Ytcmfgmhadeeieaa

namespace Go.Proofs.Ytcmfgmhadeeieaa
open Go Go.Abs
def prC:Option (Nat×Jn)→dW
 |none => .pointer none::iU
 |some (j,J)=>ptr j 0::J.rc
theorem prC_len (jo:Option (Nat×Jn)):(prC jo).length=9:=by
 rcases jo with _|⟨j,J⟩<;>rfl
theorem prC_hole (jo:Option (Nat×Jn)):Abs.cN (prC jo)=true:=by
 rcases jo with _|⟨j,J⟩<;>rfl
theorem prC_plain (jo:Option (Nat×Jn)) : ∀ u∈prC jo,nat8 u=none:=by
 intro u hu
 rcases jo with _|⟨j,J⟩
 ·rcases List.mem_cons.1 hu with h|h
  ·rw [h];rfl
  ·exact miss8_plain u h
 ·rcases List.mem_cons.1 hu with h|h
  ·rw [h];rfl
  ·exact gV J u h
structure St (h0 g:ah) (d f p q:Nat) (D:Dk) (S:Rf) (v:Value) (j1 j2:Option (Nat×Jn)):Prop where
 dk:bf g d D
 n:4≤D.n∧D.n≤64
 box:Box6 g f v
 p6:Pl6 g f
 xr:cM g (fun c=>c=d∨c=D.bb) v S
 eq:Eqd D S
 g1:g.get p=some (prC j1)
 g2:g.get q=some (prC j2)
 k1 : ∀ j J,j1=some (j,J)→cU g j d J∧iD J D∧h0.next≤j
 k2 : ∀ j J,j2=some (j,J)→cU g j d J∧iD J D∧h0.next≤j
 ne : ∀ j J j' J',j1=some (j,J)→j2=some (j',J')→j≠j'
 bJ:Old h0 g
 lo:h0.next≤D.bb∧D.bb<d∧d<f∧f<p∧p<q
theorem St.aC {h0 g g':ah} {d f p q:Nat} {D:Dk} {S:Rf} {v:Value} {j1 j2:Option (Nat×Jn)} (x:St h0 g d f p q D S v j1 j2) (o:Old g g'):St h0 g' d f p q D S v j1 j2:=
 ⟨Old.dk o x.dk,x.n,x.box.aC o (fun h=>h),x.p6.aC o (fun h=>h),x.xr.bJ o,x.eq,Old.get o x.g1,Old.get o x.g2,
  fun j J e=>⟨(x.k1 j J e).1.aC o (fun h=>h),(x.k1 j J e).2⟩,fun j J e=>⟨(x.k2 j J e).1.aC o (fun h=>h),(x.k2 j J e).2⟩,x.ne,x.bJ.trans o,x.lo⟩
theorem r45_any {g:ah} {F:Nat→Prop} {d:Nat} {D:Dk} {S:Rf} {v:Value} {jo:Option (Nat×Jn)} (xr:cM g F v S) (q:Eqd D S) (xd:bf g d D) (h4:4≤D.n) (k : ∀ j J,jo=some (j,J)→cU g j d J∧iD J D) :
  ∃ h',CD 45 [.agg (prC jo).toArray,v] g=some (.bool true,h')∧Old g h':=by
 rcases jo with _|⟨j,J⟩
 ·exact r45_nil xr
 ·obtain ⟨k1,k2⟩:=k j J rfl
  exact r45 xr q xd.len h4 xd.small xd k1 (fun hr=>(k2.ready hr).1)
theorem St.tail {h0 g:ah} {d f p q:Nat} {D:Dk} {S:Rf} {v:Value} {j1 j2:Option (Nat×Jn)} (x:St h0 g d f p q D S v j1 j2) :
  ∃ hA hB hC a c sl,ch 9 (ptr p 0) g=some (.agg (prC j1).toArray,g)∧ch 6 (ptr f 0) g=some (v,g)∧CD 45 [.agg (prC j1).toArray,v] g=some (.bool true,hA)∧ch 9 (ptr q 0) hA=some (.agg (prC j2).toArray,hA)∧ch 6 (ptr f 0) hA=some (v,hA) ∧
    CD 45 [.agg (prC j2).toArray,v] hA=some (.bool true,hB)∧CD 36 [ptr d 0] hB=some (.bool D.down,hB)∧ba (ptr f 1) hB=some (.bool D.down,hB)∧CD 25 [ptr d 0] hB=some (.slice a (128*D.n) c,hC)∧cvBS (.slice a (128*D.n) c) hC=some (.string (strOf D.aW),hC) ∧
    ba (ptr f 0) hC=some (sl,hC)∧ba (ptr f 0) hB=some (sl,hB)∧cvBS sl hC=some (.string (strOf D.aW),hC)∧cvBS sl hB=some (.string (strOf D.aW),hB)∧cE true (some (.bool D.down,hB)) (.bool D.down)=true∧cE true (some (sl,hB)) sl=true ∧
    cE true (some (.string (strOf D.aW),hB)) (.string (strOf D.aW))=true∧St h0 hC d f p q D S v j1 j2:=by
 obtain ⟨hA,e1,o1⟩:=r45_any x.xr x.eq x.dk x.n.1 (fun j J e=>⟨(x.k1 j J e).1,(x.k1 j J e).2.1⟩)
 have xA:=x.aC o1
 obtain ⟨hB,e2,o2⟩:=r45_any xA.xr xA.eq xA.dk xA.n.1 (fun j J e=>⟨(xA.k2 j J e).1,(xA.k2 j J e).2.1⟩)
 have xB:=xA.aC o2
 obtain ⟨a,c,hC,e3,t1,_,_,o3⟩:=r25 xB.dk
 have xC:=xB.aC o3
 obtain ⟨ai,ci,hv,y1,_,_⟩:=xB.xr
 obtain ⟨k,gk,hk,_,_⟩:=xB.box
 have hkk:k=S.cells (.slice ai S.aW.length ci):=by
  have:=hv.symm.trans hk
  injection this with h1
  have:=congrArg Array.toList h1
  simpa using this.symm
 subst hkk
 have y2:=Old.bytes o3 y1
 have hi:=x.eq.aW
 refine ⟨hA,hB,hC,a,c,.slice ai S.aW.length ci,cZ x.g1 (prC_len _) (prC_hole _),x.box.ld,e1,cZ xA.g2 (prC_len _) (prC_hole _),xA.box.ld,e2,eO (by rw [X36,s36_at xB.dk]),aN gk (by rw [←x.eq.down];rfl) rfl,e3,iO t1,
  aN (Old.get o3 gk) rfl rfl,aN gk rfl rfl,by rw [iO y2,hi],by rw [iO y1,hi],dJ rfl (by simp [veq]),dJ rfl (by simp [veq]),dJ rfl (by simp [veq]),xC⟩
end Go.Proofs.Ytcmfgmhadeeieaa

namespace Go.Proofs.Ytcmfgmhadeeieaa
open Go Go.Abs
theorem OpV.bJ {h h':ah} {k:dW} {o:Nat} {op:OpD} (x:OpV h k o op) (bJ:Old h h'):OpV h' k o op:=by
 obtain ⟨dv,d1,d2,d3⟩:=x.data
 obtain ⟨rv,r1,r2,r3⟩:=x.aT
 exact ⟨x.kind,x.A,x.B,x.mask,⟨dv,d1,d2,d3.bJ bJ⟩,⟨rv,r1,r2,r3.bJ bJ⟩,x.wf⟩
theorem iC.bJ {h h':ah} {v:Value} {ops:List OpD} (x:iC h v ops) (bJ:Old h h'):iC h' v ops:=by
 obtain ⟨a,n,c,rfl,h1,h2,h3⟩:=x
 refine ⟨a,n,c,rfl,h1,h2,fun i hi => ?_⟩
 obtain ⟨b,off,s,k,e1,e2,op,e3,e4⟩:=h3 i hi
 exact ⟨b,off,s,k,e1,Old.get bJ e2,op,e3,e4.bJ bJ⟩
theorem OpV.ld {h:ah} {b o:Nat} {k:dW} {op:OpD} (hk:h.get b=some k) (x:OpV h k o op) : ∃ da dn dc ra rn rc,(∀ h',Old h h'→ch 6 (ptr b o) h'=some (.agg #[.int .i64 op.kind,.int .i64 op.A,.int .i64 op.B,u8 op.mask,.slice da dn dc,.slice ra rn rc],h'))∧av da dn h=some op.data∧fx h (.slice ra rn rc) op.aT:=by
 obtain ⟨dv,d1,d2,da,dn,dc,rfl,d3,_⟩:=x.data
 obtain ⟨rv,r1,r2,r3⟩:=x.aT
 have r3':=r3
 obtain ⟨ra,rn,rc,rfl,_⟩:=r3
 have l5:=(List.getElem?_eq_some_iff.1 r1).1
 have hcs:(k.drop o).take 6 = [.int .i64 op.kind,.int .i64 op.A,.int .i64 op.B,u8 op.mask,.slice da dn dc,.slice ra rn rc]:=by
  apply List.ext_getElem?
  intro q
  rw [List.getElem?_take]
  by_cases hq:q<6
  ·rw [if_pos hq,List.getElem?_drop]
   match q,hq with
   | 0,_=>exact x.kind
   | 1,_=>exact x.A
   | 2,_=>exact x.B
   | 3,_=>exact x.mask
   | 4,_=>exact d1
   | 5,_=>exact r1
  ·rw [if_neg hq,List.getElem?_eq_none (by simp;omega)]
 refine ⟨da,dn,dc,ra,rn,rc,fun h' bJ => ?_,d3,r3'⟩
 rw [ldN_at (Old.get bJ hk) (by omega) (by rw [hcs];rfl),hcs]
theorem iC.at {h:ah} {v:Value} {ops:List OpD} (x:iC h v ops) {i:Nat} (hi:i<ops.length) : ∃ b o da dn dc ra rn rc op,ops[i]? = some op∧cd 6 v (aq i)=some (ptr b o)∧(∀ h',Old h h'→ch 6 (ptr b o) h'=some (.agg #[.int .i64 op.kind,.int .i64 op.A,.int .i64 op.B,u8 op.mask,.slice da dn dc,.slice ra rn rc],h'))∧av da dn h=some op.data∧fx h (.slice ra rn rc) op.aT∧op.mask<256∧eS op.A=true∧eS op.B=true:=by
 obtain ⟨a,n,c,rfl,h1,h2,h3⟩:=x
 obtain ⟨b,off,s,k,rfl,e2,op,e3,e4⟩:=h3 i (by omega)
 obtain ⟨da,dn,dc,ra,rn,rc,e5,e6,e7⟩:=OpV.ld e2 e4
 refine ⟨b,off+i*6,da,dn,dc,ra,rn,rc,op,e3,?_,e5,e6,e7,e4.wf.2.2.2,e4.wf.2.1,e4.wf.2.2.1⟩
 unfold cd
 simp only [aq]
 rw [if_pos (by omega),Int.toNat_natCast]
theorem iC.len {h:ah} {v:Value} {ops:List OpD} (x:iC h v ops):cH v=some (aq ops.length):=by
 obtain ⟨a,n,c,rfl,rfl,_⟩:=x
 rfl
section
variable {h0:ah} {v:Value} {ops:List OpD} (O:iC h0 v ops) (hlight : ∀ op∈ops,op.data.length≤21000) (h100:ops.length≤100) {d bb m7 n:Nat} (h4:4≤n) (hn:n≤4096) (hd:h0.next≤d) (hb:h0.next≤bb) (hm:h0.next≤m7) (hmd:m7≠d) (hmb:m7≠bb)
include O hlight h100 h4 hn hd hb hm hmd hmb
end
end Go.Proofs.Ytcmfgmhadeeieaa

namespace Go.Proofs.Ytcmfgmhadeeieaa
open Go Go.Abs
def opC (op:OpD) (da:Option Addr) (dn dc:Nat) (ra:Option Addr) (rn rc:Nat):dW := [.int .i64 op.kind,.int .i64 op.A,.int .i64 op.B,u8 op.mask,.slice da dn dc,.slice ra rn rc]
def opZ:dW := [(.int .i64 0),(.int .i64 0),(.int .i64 0),(.int .u8 0),(.slice none 0 0),(.slice none 0 0)]
theorem iC.atZ {h:ah} {v:Value} {ops:List OpD} (x:iC h v ops) {i:Nat} (hi:i<ops.length) : ∃ b o da dn dc ra rn rc op,ops[i]? = some op∧cd 6 v (aq i)=some (ptr b o)∧(∀ h',Old h h'→ch 6 (ptr b o) h'=some (.agg (opC op da dn dc ra rn rc).toArray,h'))∧av da dn h=some op.data∧goodZ da dn dc∧fx h (.slice ra rn rc) op.aT∧op.mask<256∧eS op.A=true∧eS op.B=true:=by
 obtain ⟨b,o,da,dn,dc,ra,rn,rc,op,e1,e2,e3,e4,e5,e6,e7,e8⟩:=x.at hi
 refine ⟨b,o,da,dn,dc,ra,rn,rc,op,e1,e2,e3,e4,?_,e5,e6,e7,e8⟩
 obtain ⟨a,n,c,rfl,h1,h2,h3⟩:=x
 obtain ⟨b',off,s,k,rfl,k2,op',k3,k4⟩:=h3 i (by omega)
 rw [e1] at k3
 cases k3
 obtain ⟨dv,d1,d2,da',dn',dc',rfl,d3,_,d4⟩:=k4.data
 have hb:cd 6 (.slice (some ⟨b',off,s⟩) n c) (aq i)=some (ptr b' (off+i*6)):=by
  unfold cd
  simp only [aq]
  rw [if_pos (by omega),Int.toNat_natCast]
 rw [hb] at e2
 have e2:=Option.some.inj e2
 have hbo:b'=b∧off+i*6=o:=by
  injection e2 with e2
  have e2:=Option.some.inj e2
  injection e2 with q1 q2
  exact ⟨q1,q2⟩
 obtain ⟨rfl,rfl⟩:=hbo
 have l1:=e3 h (Kept.refl _ _)
 have hc:k[off+i*6+4]? = some (.slice da dn dc):=by
  unfold ch ptr at l1
  simp only [k2] at l1
  split at l1
  ·have l1:=(Prod.mk.inj (Option.some.inj l1)).1
   injection l1 with l1
   have l1:=congrArg Array.toList l1
   have l1:(k.drop (off+i*6)).take 6=opC op da dn dc ra rn rc:=by simpa [opC] using l1
   have l2:=congrArg (fun z:List Value=>z[4]?) l1
   simp only [List.getElem?_take,List.getElem?_drop] at l2
   exact l2
  ·cases l1
 rw [d1] at hc
 cases hc
 exact d4
structure ScAt (h0:ah) (v1:Value) (ops:List OpD) (d f p q:Nat) (k:Nat) (y:Nat→Value) (g:ah) (i:Nat) (D:Dk) (S:Rf) (v:Value) (j1 j2:Option (Nat×Jn)):Prop where
 hik:i+k=ops.length
 bY:y 11=aq i
 y1:y 1=v1
 y5:y 5=ptr d 0
 y7:y 7=ptr f 0
 y9:y 9=ptr p 0
 bM:y 10=ptr q 0
 st:St h0 g d f p q D S v j1 j2
theorem St.op {h0 g:ah} {d f p q:Nat} {D:Dk} {S:Rf} {v:Value} {j1 j2:Option (Nat×Jn)} (x:St h0 g d f p q D S v j1 j2) (op:OpD) (da:Option Addr) (dn dc:Nat) (ra:Option Addr) (rn rc:Nat) :
  ∃ ga,dB [(.int .i64 0),(.int .i64 0),(.int .i64 0),(.int .u8 0),(.slice none 0 0),(.slice none 0 0)] g=some (ptr g.next 0,g.alloc opZ)∧cf 6 (ptr g.next 0) (.agg (opC op da dn dc ra rn rc).toArray) (g.alloc opZ)=some (undef,ga) ∧
    (∀ z,Old ga z→z.get g.next=some (opC op da dn dc ra rn rc))∧ga.get g.next=some (opC op da dn dc ra rn rc)∧St h0 ga d f p q D S v j1 j2∧Old g ga∧g.next<ga.next:=by
 have oA:Old g (g.alloc opZ):=Kept.alloc _ _ _
 have gA:(g.alloc opZ).get g.next=some opZ:=by rw [ah.aE,if_pos rfl]
 have n0:(g.alloc opZ).n0≤g.next:=g.aH
 obtain ⟨s1,_,s3,s4⟩:=iK (n:=6) gA n0 rfl (k':=opC op da dn dc ra rn rc) rfl rfl rfl
 have o:=oA.bS s4 (fun c hc e=>by omega)
 exact ⟨_,rfl,s1,fun z oz=>Old.get oz s3,s3,x.aC o,o,ah.aR _ s3⟩
theorem ft {γ:Type} {o o':Out} {f:Value→ah→Option γ} (h:o=o'):ae o f=ae o' f:=by rw [h]
attribute [local congr] ft
section
variable {h0:ah} {v1:Value} {ops:List OpD} (O:iC h0 v1 ops) (h100:ops.length≤100) {d f p q k:Nat} {y:Nat→Value} {g:ah} {i:Nat} {D:Dk} {S:Rf} {v:Value} {j1 j2:Option (Nat×Jn)} (A:ScAt h0 v1 ops d f p q k y g i D S v j1 j2) {ob oo:Nat} {da ra:Option Addr} {dn dc rn rc:Nat} {op:OpD} (hi:i<ops.length)
 (e2:cd 6 v1 (aq i)=some (ptr ob oo)) (e3 : ∀ h',Old h0 h'→ch 6 (ptr ob oo) h'=some (.agg (opC op da dn dc ra rn rc).toArray,h'))
include O h100 A hi e2 e3
end
end Go.Proofs.Ytcmfgmhadeeieaa

namespace Go.Proofs.Ytcmfgmhadeeieaa
open Go Go.Abs
end Go.Proofs.Ytcmfgmhadeeieaa

namespace Go.Proofs.Ytcmfgmhadeeieaa
open Go Go.Abs
section
variable {h0:ah} {d j f m:Nat} {D:Dk} {J:Jn} {F:Nat→Prop} {v:Value} {S:Rf} (xd:bf h0 d D) (xj:cU h0 j d J) (xr:cM h0 F v S) (q:Eqd D S) (h4:4≤D.n)
include xd xj xr q h4
end
end Go.Proofs.Ytcmfgmhadeeieaa

namespace Go.Proofs.Ytcmfgmhadeeieaa
open Go Go.Abs
attribute [local congr] ft
theorem iD.of_n {J:Jn} {D D':Dk} (k:iD J D) (h:D'.n=D.n):iD J D':=⟨k.slot,k.ak,k.gen,k.known,fun hr=>by
 have:=k.ready hr
 have har:D'.ar=D.ar:=by unfold Dk.ar;rw [h]
 rw [har];exact this⟩
theorem St.updD {h0 g g1:ah} {d f p q:Nat} {D D':Dk} {S S':Rf} {v v':Value} {j1 j2:Option (Nat×Jn)} (x:St h0 g d f p q D S v j1 j2) (k:dX d D.bb g g1) (xd:bf g1 d D') (hb:D'.bb=D.bb) (hn:D'.n=D.n) (eq:Eqd D' S') (xr:cM g1 (fun c=>c=d∨c=D.bb) v' S') :
  ∃ g2,cf 6 (ptr f 0) v' g1=some (undef,g2)∧St h0 g2 d f p q D' S' v' j1 j2∧Kept g1 g2 (fun c=>c=f):=by
 have lo:=x.lo
 have hn0:g.n0≤h0.next:=by rw [x.bJ.n0];exact h0.aH
 have o1:Old h0 g1:=x.bJ.bS k (fun c hc e=>by omega)
 obtain ⟨g2,s1,s2,s3,s4,s5,s6⟩:=(x.p6.aC k (by omega)).store xr (by rw [o1.n0];have:=h0.aH;omega)
 have jne : ∀ {j J},cU g j d J → ¬(j=d∨j=D.bb)∧j≠f:=by
  intro j J xj
  refine ⟨fun h=>h.elim (xj.ne_d x.dk) (xj.ne_bb x.dk),?_⟩
  rintro rfl
  obtain ⟨k',e1,e2,_⟩:=x.p6
  have:=e1.symm.trans xj.get
  have:=congrArg List.length (Option.some.inj this)
  have hl:(J.cells d).length=8:=rfl
  omega
 have kj : ∀ {j J},cU g j d J→cU g2 j d J:=fun xj=>(xj.aC k (jne xj).1).aC s5 (jne xj).2
 refine ⟨g2,s1,⟨s5.dk xd (by omega) (by rw [hb];omega),by rw [hn];exact x.n,s2,s3,by rw [hb];exact s4,eq,s5.dp (k.dp x.g1 (by omega)) (by omega),s5.dp (k.dp x.g2 (by omega)) (by omega),
  fun j J e=>⟨kj (x.k1 j J e).1,(x.k1 j J e).2.1.of_n hn,(x.k1 j J e).2.2⟩,fun j J e=>⟨kj (x.k2 j J e).1,(x.k2 j J e).2.1.of_n hn,(x.k2 j J e).2.2⟩,x.ne,o1.bS s5 (fun c hc e=>by omega),by rw [hb];exact lo⟩,s5⟩
section
variable {h0:ah} {v1:Value} {ops:List OpD} (O:iC h0 v1 ops) (h100:ops.length≤100) {d f p q k:Nat} {y:Nat→Value} {g:ah} {i:Nat} {D:Dk} {S:Rf} {v:Value} {j1 j2:Option (Nat×Jn)} (A:ScAt h0 v1 ops d f p q k y g i D S v j1 j2) {ob oo:Nat} {da ra:Option Addr} {dn dc rn rc:Nat} {op:OpD} (hi:i<ops.length)
 (e2:cd 6 v1 (aq i)=some (ptr ob oo)) (e3 : ∀ h',Old h0 h'→ch 6 (ptr ob oo) h'=some (.agg (opC op da dn dc ra rn rc).toArray,h'))
include O h100 A hi e2 e3
end
end Go.Proofs.Ytcmfgmhadeeieaa

namespace Go.Proofs.Ytcmfgmhadeeieaa
open Go Go.Abs
attribute [local congr] ft
theorem append_jok {J:Jn} {D:Dk} {r:List Nat} (ok:iD J D) (hn:(J.append D r).2.1.n=D.n):iD (J.append D r).2.2 (J.append D r).2.1:=by
 refine iD.of_n (D:=D) ?_ hn
 unfold Jn.append
 split
 ·exact ok
 split
 ·exact ok
 split
 ·exact ok
 split
 ·exact ok
 rename_i h1 h2 h3 h4
 split
 ·refine ⟨ok.slot,ok.ak,ok.gen,ok.known,fun hr => ?_⟩
  have hr:J.ready=true:=hr
  have:=ok.ready hr
  have hl:J.live D=true:=by simpa using h1
  have hf:J.free D=D.ar-J.fin:=by unfold Jn.free;rw [hl,hr];rfl
  rw [hf] at h4
  show J.fin+aQ r.length≤D.ar∧0≤J.slot
  omega
 ·exact ok
theorem St.same {h0 g g1:ah} {d f p q:Nat} {D:Dk} {S:Rf} {v:Value} {j2:Option (Nat×Jn)} (x:St h0 g d f p q D S v none j2) (o:Old g g1) :
  ∃ g3 g4,cf 6 (ptr f 0) v g1=some (undef,g3)∧cf 8 (ptr p 1) (.agg iU.toArray) g3=some (undef,g4)∧St h0 g4 d f p q D S v none j2:=by
 have x1:=x.aC o
 have lo:=x.lo
 have hn0:g1.n0≤h0.next:=by rw [x1.bJ.n0];exact h0.aH
 obtain ⟨g3,s1,sb,_⟩:=x1.updD (Kept.refl _ _) x1.dk rfl rfl x1.eq x1.xr
 have gp:=sb.g1
 have hn3:g3.n0≤h0.next:=by rw [sb.bJ.n0];exact h0.aH
 have hk0:g3.n0≤p:=by omega
 have e8:cf 8 (ptr p 1) (.agg iU.toArray) g3=some (undef,g3.set p (prC none)):=by
  unfold cf ptr
  have hc:(Value.agg iU.toArray).cells=iU.toArray:=rfl
  have hl:iU.length=8:=rfl
  simp only [hc,List.size_toArray,hl,if_true]
  unfold stL
  simp only [gp]
  have ho:bK iU=true:=rfl
  rw [if_pos (by
   rw [prC_len]
   simp [hk0,hl,ho])]
  rfl
 have gp':(g3.set p (prC none)).get p=some (prC none):=ah.bI hk0 gp _
 have k3:Kept g3 (g3.set p (prC none)) (fun c=>c=p):=Kept.set hk0 gp (.inr rfl)
 have pl : ∀ c,c=p→dq g3 c:=fun c hc=>by subst hc;exact ⟨_,gp,prC_plain _⟩
 have jp : ∀ {j' J''},cU g3 j' d J''→j'≠p:=by
  rintro j' J'' xj' rfl
  have:=xj'.get.symm.trans gp
  have:=congrArg List.length (Option.some.inj this)
  have hl:(J''.cells d).length=8:=rfl
  rw [prC_len,hl] at this
  omega
 refine ⟨g3,_,s1,e8,k3.dk sb.dk (by omega) (by omega),sb.n,sb.box.aC k3 (by omega),sb.p6.aC k3 (by omega),?_,sb.eq,gp',k3.dp sb.g2 (by omega),fun j J e=>(by cases e),fun j J e=>⟨(sb.k2 j J e).1.aC k3 (jp (sb.k2 j J e).1),(sb.k2 j J e).2⟩,fun j J j' J' e=>(by cases e),sb.bJ.bS k3 (fun c hc e=>by omega),lo⟩
 obtain ⟨ai,ci,rfl,y1,y2,y3⟩:=sb.xr
 exact ⟨ai,ci,rfl,k3.ea pl y1,y2,y3⟩
theorem St.jne {h0 g:ah} {d f p q:Nat} {D:Dk} {S:Rf} {v:Value} {j1 j2:Option (Nat×Jn)} (x:St h0 g d f p q D S v j1 j2) {j:Nat} {J:Jn} (xj:cU g j d J):j≠f∧j≠p∧j≠q∧j≠d∧j≠D.bb:=by
 have hl:(J.cells d).length=8:=rfl
 refine ⟨?_,?_,?_,xj.ne_d x.dk,xj.ne_bb x.dk⟩
 ·rintro rfl
  obtain ⟨k',e1,e2,_⟩:=x.p6
  have:=congrArg List.length (Option.some.inj (e1.symm.trans xj.get))
  omega
 ·rintro rfl
  have:=congrArg List.length (Option.some.inj (xj.get.symm.trans x.g1))
  rw [prC_len,hl] at this;omega
 ·rintro rfl
  have:=congrArg List.length (Option.some.inj (xj.get.symm.trans x.g2))
  rw [prC_len,hl] at this;omega
theorem not_bytes {h:ah} {b n:Nat} {y:Addr} {l:List Nat} (p:dq h b) (e:av (some y) n h=some l) (hn:0<n):y.block≠b:=by
 intro hb
 obtain ⟨c,h1,h2⟩:=p
 subst hb
 exact bytes_apart e h1 h2 y rfl hn rfl
section
variable {h0:ah} {v1:Value} {ops:List OpD} (O:iC h0 v1 ops) (h100:ops.length≤100) {d f p q k:Nat} {y:Nat→Value} {g:ah} {i:Nat} {D:Dk} {S:Rf} {v:Value} {j1 j2:Option (Nat×Jn)} (A:ScAt h0 v1 ops d f p q k y g i D S v j1 j2) {ob oo:Nat} {da ra:Option Addr} {dn dc rn rc:Nat} {op:OpD} (hi:i<ops.length)
 (e2:cd 6 v1 (aq i)=some (ptr ob oo)) (e3 : ∀ h',Old h0 h'→ch 6 (ptr ob oo) h'=some (.agg (opC op da dn dc ra rn rc).toArray,h'))
include O h100 A hi e2 e3
end
end Go.Proofs.Ytcmfgmhadeeieaa

namespace Go.Proofs.Ytcmfgmhadeeieaa
open Go Go.Abs
attribute [local congr] ft
theorem rewrite_jok {J:Jn} {D:Dk} {vals:List (List Nat)} (ok:iD J D) (hn:(J.rewrite D vals).2.1.n=D.n):iD (J.rewrite D vals).2.2.1 (J.rewrite D vals).2.1:=by
 refine iD.of_n (D:=D) ?_ hn
 unfold Jn.rewrite
 split
 ·exact ok
 split
 ·exact ok
 split
 ·exact ok
 rename_i h1 h2 h3
 split
 ·split
  ·have hk:=ok.known
   refine ⟨?_,J.gl,by show J.known+1<_;omega,by show J.known+1<_;omega,fun _ => ?_⟩
   ·show J.a9 = -1∨J.a9=0∨J.a9=1
    have:=ok.slot
    unfold Jn.a9
    split<;>omega
   ·show aG vals≤D.ar∧0≤J.a9
    refine ⟨by omega,?_⟩
    have:=ok.slot
    unfold Jn.a9
    split<;>omega
  ·exact ok
 ·exact ok
section
variable {h0:ah} {v1:Value} {ops:List OpD} (O:iC h0 v1 ops) (h100:ops.length≤100) {d f p q k:Nat} {y:Nat→Value} {g:ah} {i:Nat} {D:Dk} {S:Rf} {v:Value} {j1 j2:Option (Nat×Jn)} (A:ScAt h0 v1 ops d f p q k y g i D S v j1 j2) {ob oo:Nat} {da ra:Option Addr} {dn dc rn rc:Nat} {op:OpD} (hi:i<ops.length)
 (e2:cd 6 v1 (aq i)=some (ptr ob oo)) (e3 : ∀ h',Old h0 h'→ch 6 (ptr ob oo) h'=some (.agg (opC op da dn dc ra rn rc).toArray,h'))
include O h100 A hi e2 e3
end
end Go.Proofs.Ytcmfgmhadeeieaa

namespace Go.Proofs.Ytcmfgmhadeeieaa
open Go Go.Abs
attribute [local congr] ft
theorem be8_lt {l:List Nat} (hl:l.length≤8) (hb : ∀ x∈l,x<256):be l<18446744073709551616:=by
 have h1:=be_lt _ l rfl hb
 have h2:=Nat.pow_le_pow_right (n:=256) (by decide) hl
 omega
theorem openJ_jok {D:Dk} (hb : ∀ y∈D.aW,y<256) (t:Int):iD (D.cz t) D:=by
 have hblk : ∀ i,∀ y∈D.aX i,y<256:=fun i y hy=>hb y (List.mem_of_mem_drop (List.mem_of_mem_take hy))
 have hsg : ∀ i,bc (D.aX i)<18446744073709551616:=fun i=>be8_lt (List.length_take_le ..) (fun y hy=>hblk i y (List.mem_of_mem_drop (List.mem_of_mem_take hy)))
 have hlg : ∀ s p,bG (D.jb s p)<18446744073709551616:=fun s p=>be8_lt (List.length_take_le ..) (fun y hy=>hblk _ y (List.mem_of_mem_drop (List.mem_of_mem_take hy)))
 have hk:(D.cz t).known≤18446744073709551615:=fI.cz ⟨fun s _ p _ _=>by have:=hlg s p;omega,fun s _ _=>by have:=hsg s;omega⟩ t
 have h:=openJ_act D t
 have hg:((D.cz t).slot = -1∨(D.cz t).slot=0∨(D.cz t).slot=1)∧(D.cz t).gen<18446744073709551616:=by
  split at h
  ·simp only [Prod.mk.injEq] at h
   exact ⟨.inr (.inr h.1),by rw [h.2.1];exact hsg 1⟩
  ·split at h
   ·simp only [Prod.mk.injEq] at h
    exact ⟨.inr (.inl h.1),by rw [h.2.1];exact hsg 0⟩
   ·simp only [Prod.mk.injEq] at h
    exact ⟨.inl h.1,by rw [h.2.1];omega⟩
 exact ⟨hg.1,openJ_area D t,hg.2,by omega,fun hr=>by rw [(openJ_rest D t).2.1] at hr;cases hr⟩
section
variable {h0:ah} {v1:Value} {ops:List OpD} (O:iC h0 v1 ops) (h100:ops.length≤100) {d f p q k:Nat} {y:Nat→Value} {g:ah} {i:Nat} {D:Dk} {S:Rf} {v:Value} {j1 j2:Option (Nat×Jn)} (A:ScAt h0 v1 ops d f p q k y g i D S v j1 j2) {ob oo:Nat} {da ra:Option Addr} {dn dc rn rc:Nat} {op:OpD} (hi:i<ops.length)
 (e2:cd 6 v1 (aq i)=some (ptr ob oo)) (e3 : ∀ h',Old h0 h'→ch 6 (ptr ob oo) h'=some (.agg (opC op da dn dc ra rn rc).toArray,h'))
include O h100 A hi e2 e3
end
end Go.Proofs.Ytcmfgmhadeeieaa

namespace Go.Proofs.Ytcmfgmhadeeieaa
open Go Go.Abs
theorem logOk_right {p:Nat} {b:List Nat} (h:right b=false):db p b=false:=by unfold db;rw [h];rfl
theorem superOk_right {b:List Nat} (h:right b=false):bB b=false:=by unfold bB;rw [h];rfl
def Nf (W S T:Dk):Prop := ∀ b,b<W.n→T.aX b=W.aX b∨T.aX b=S.aX b∨right (T.aX b)=false
structure Bears (D:Dk) (ak gen:Nat) (aT:List (List Nat)):Prop where
 a:ak≤1
 g:gen<18446744073709551616
 ok : ∀ r∈aT,r.length≤20000 ∧ ∀ x∈r,x<256
 fit:aG aT≤D.ar
 dY : ∀ e∈ee aT 0,D.dY ak gen e.1 e.2
 rest : ∀ p,aG aT≤p→p<D.ar→D.bg ak gen p=false
theorem Has.bears {D:Dk} {ak gen:Nat} {aT:List (List Nat)} (H:Has D ak gen aT):Bears D ak gen aT:=⟨H.a,H.g,H.ok,H.fit,H.dY,fun p h1 h2=>(H.rest p h1 h2).bg⟩
theorem stands_congr {D E:Dk} {ak gen:Nat} (har:E.ar=D.ar) (h : ∀ p,p<D.ar→E.aX (2+ak*D.ar+p)=D.aX (2+ak*D.ar+p)) {p:Nat} (hp:p<D.ar):E.bg ak gen p=D.bg ak gen p:=by
 have hj : ∀ q,q<D.ar→E.jb ak q=D.jb ak q:=fun q hq=>by unfold Dk.jb;rw [har,h q hq]
 have hpt:E.parts ak p=D.parts ak p:=by unfold Dk.parts;rw [hj p hp]
 unfold Dk.bg
 rw [hpt,har]
 by_cases hfit:p+D.parts ak p≤D.ar
 ·congr 1
  rw [Bool.eq_iff_iff,List.all_eq_true,List.all_eq_true]
  refine forall_congr' fun i => ?_
  by_cases hi:i∈List.range (D.parts ak p)
  ·have:=List.mem_range.1 hi
   unfold Dk.part
   rw [hj (p+i) (by omega)]
  ·exact ⟨fun _ h=>absurd h hi,fun _ h=>absurd h hi⟩
 ·rw [decide_eq_false hfit];rfl
theorem Bears.aC {D E:Dk} {ak gen:Nat} {aT:List (List Nat)} (H:Bears D ak gen aT) (har:E.ar=D.ar) (h : ∀ p,p<D.ar→E.aX (2+ak*D.ar+p)=D.aX (2+ak*D.ar+p)):Bears E ak gen aT:=by
 refine ⟨H.a,H.g,H.ok,har▸H.fit,fun e he => ?_,fun p h1 h2 => ?_⟩
 ·have hb:=iy _ _ _ he
  have:=H.fit
  exact (H.dY e he).aC har (fun i hi=>h _ (by omega))
 ·rw [har] at h2
  rw [stands_congr har h h2]
  exact H.rest p h1 h2
theorem Sup.aC {D E:Dk} {slot ak gen:Nat} (x:Sup D slot ak gen) (h : ∀ b,b<2→E.aX b=D.aX b):Sup E slot ak gen:=by
 have h1:=h slot (by have:=x.s;omega)
 have h2:=h (1-slot) (by omega)
 exact ⟨x.s,by rw [h1];exact x.ok,by rw [h1];exact x.g,by rw [h1];exact x.a,by rw [h2];exact x.other⟩
def Clear (D:Dk) (ak gen lo:Nat):Prop := ∀ p,lo≤p→p<D.ar→db p (D.jb ak p)=false∨bG (D.jb ak p)≠gen
structure Lv (D:Dk) (k:Nat) (aT:List (List Nat)) (gen:Nat):Prop where
 len:D.aW.length=128*D.n
 four:4≤D.n
 gv:fI D k
 st:(bB (D.aX 0)=false∧bB (D.aX 1)=false∧aT = []∧gen=0) ∨ ∃ slot ak g,Sup D slot ak g∧Bears D ak g aT∧gen≤g
theorem Lv.cong {D E:Dk} {k:Nat} {aT:List (List Nat)} {gen:Nat} (x:Lv D k aT gen) (h1:E.aW=D.aW) (h2:E.n=D.n):Lv E k aT gen:=by
 have har:E.ar=D.ar:=by unfold Dk.ar;rw [h2]
 have hb : ∀ b,E.aX b=D.aX b:=fun b=>by unfold Dk.aX;rw [h1]
 have hj : ∀ s p,E.jb s p=D.jb s p:=fun s p=>by unfold Dk.jb;rw [har,hb]
 refine ⟨by rw [h1,h2];exact x.len,by rw [h2];exact x.four,⟨fun s hs p hp=>by rw [hj];exact x.gv.logs s hs p (har▸hp),fun s hs=>by rw [hb];exact x.gv.sups s hs⟩,?_⟩
 rw [hb,hb]
 rcases x.st with h|⟨slot,ak,g,a,b,c⟩
 ·exact .inl h
 ·exact .inr ⟨slot,ak,g,a.aC (fun b _=>hb b),b.aC har (fun p _=>hb _),c⟩
theorem Lv.mono {D:Dk} {k k':Nat} {aT:List (List Nat)} {gen:Nat} (x:Lv D k aT gen) (h:k≤k'):Lv D k' aT gen:=⟨x.len,x.four,x.gv.mono h,x.st⟩
theorem Fresh.lv {D:Dk} (f:Fresh D) (hl:D.aW.length=128*D.n) (h4:4≤D.n):Lv D 0 [] 0:=
 ⟨hl,h4,f.gv h4,.inl ⟨by rw [f _ (by omega),iW],by rw [f _ (by omega),iW],rfl,rfl⟩⟩
theorem ents_off {D:Dk} {J:Jn} (hs:J.slot<0) : ∀ k at_,D.dC J k at_ = []
 | 0,_=>rfl
 |k+1,at_=>by
  unfold Dk.dC
  split
  ·have:J.bg D at_=false:=by unfold Jn.bg;rw [decide_eq_false (by omega)];rfl
   rw [this,if_neg (by decide),ents_off hs k]
  ·rfl
theorem Lv.jn {D:Dk} {k:Nat} {aT:List (List Nat)} {gen:Nat} (x:Lv D k aT gen) :
  (bB (D.aX 0)=false∧bB (D.aX 1)=false∧aT = []∧gen=0∧D.jn.slot = -1) ∨ ∃ slot:Nat,D.jn.slot=slot∧Sup D slot D.jn.ak D.jn.gen∧Bears D D.jn.ak D.jn.gen aT∧gen≤D.jn.gen:=by
 rcases x.st with ⟨h0,h1,h2,h3⟩|⟨slot,ak,g,a,b,c⟩
 ·have h:D.jn.un=D.opened.jn0 D.opened.aU:=Dk.openJ_none (D:=D.opened) h0 h1 _
  exact .inl ⟨h0,h1,h2,h3,congrArg Jn.slot h⟩
 ·obtain ⟨q1,q2,q3,_⟩:=a.jn
  exact .inr ⟨slot,q1,by rw [q2,q3];exact a,by rw [q2,q3];exact b,by rw [q3];exact c⟩
theorem Lv.entries {D:Dk} {k:Nat} {aT:List (List Nat)} {gen:Nat} (x:Lv D k aT gen) (har:D.ar≤4096):D.entries.map (·.2)=aT:=by
 rcases x.jn with ⟨h0,h1,rfl,h3,h4⟩|⟨slot,q1,a,b,c⟩
 ·unfold Dk.entries
  rw [ents_off (by omega)];rfl
 ·have hb:Bears D.opened D.jn.ak D.jn.gen aT:=⟨b.a,b.g,b.ok,b.fit,b.dY,b.rest⟩
  have:D.entries=ee aT 0:=by
   unfold Dk.entries
   have hh:=ents_lay (D:=D.opened) (J:=D.jn) (by omega) hb.g har (fun _=>false) aT 0 D.ar hb.ok (by have:=hb.fit;have h:D.opened.ar=D.ar:=rfl;omega) (by have h:D.opened.ar=D.ar:=rfl;omega) (fun e he _=>hb.dY e he) (fun _ _ h=>by cases h) (fun p h1 h2=>hb.rest p (by omega) h2)
   rw [hh];simp
  rw [this,layR_snd]
def Jn.tn (J:Jn) (t:Int):Jn:={ J with aU:=t }
section
variable {D U:Dk} (hb : ∀ b,U.aX b=D.aX b) (ha:U.ar=D.ar) (t:Int)
include hb ha
theorem Jn.seeLog_tn (s at_:Nat) (J:Jn):(J.tn t).eZ U s at_=(J.eZ D s at_).tn t:=by
 unfold Jn.eZ Dk.jb
 rw [ha,hb]
 split<;>rfl
theorem Jn.seeLogs_tn (s:Nat) : ∀ k at_ J,Jn.dx U s k at_ (Jn.tn J t)=(Jn.dx D s k at_ J).tn t
 | 0,_,_=>rfl
 |k+1,at_,J=>by rw [Jn.dx,Jn.dx,Jn.seeLog_tn hb ha,Jn.seeLogs_tn s k]
theorem Jn.seeSlot_tn (s:Nat) (J:Jn):(J.tn t).dV U s=(J.dV D s).tn t:=by
 unfold Jn.dV
 have:(J.tn t).eE U s=(J.eE D s).tn t:=by
  unfold Jn.eE Jn.ct
  rw [hb]
  split
  ·have h1:(J.tn t).slot=J.slot:=rfl
   have h2:(J.tn t).gen=J.gen:=rfl
   rw [h1,h2]
   split<;>rfl
  ·rfl
 rw [ha,this,Jn.seeLogs_tn hb ha]
end
theorem jn_same {D U:Dk} (h1:U.aW=D.aW) (h2:U.n=D.n):U.jn=D.jn.tn U.opened.aU:=by
 have har:U.opened.ar=D.opened.ar:=by show (U.n-2)/2=(D.n-2)/2;rw [h2]
 have hb : ∀ b,U.opened.aX b=D.opened.aX b:=fun b=>by show (U.aW.drop (b*128)).take 128=(D.aW.drop (b*128)).take 128;rw [h1]
 unfold Dk.jn Dk.cz
 have h0:U.opened.jn0 U.opened.aU=(D.opened.jn0 D.opened.aU).tn U.opened.aU:=rfl
 rw [h0,Jn.seeSlot_tn hb har,Jn.seeSlot_tn hb har]
structure Rn (D U:Dk) (J J':Jn) (aT:List (List Nat)):Prop where
 par:Par D U
 four:4≤D.n
 live:J.live D=true
 live':J'.live U=true
 ak:J'.ak=J.ak
 gen:J'.gen=J.gen
 same:J'.fin=J.fin
 ready:J.ready=true
 ready':J'.ready=true
 fin:J.fin=aG aT
 has:Has U J.ak J.gen aT
 clear:Clear U J.ak J.gen (aG aT)
 sup : ∃ s,Sup U s J.ak J.gen
 gv:fI U J.gen
theorem Par.gv {D U:Dk} (p:Par D U) {k:Nat} (h:fI U k):fI D k:=
 ⟨fun s hs q hq=>by unfold Dk.jb;rw [p.ar,p.aX];exact h.logs s hs q (p.ar▸hq),fun s hs=>by rw [p.aX];exact h.sups s hs⟩
theorem Par.knows' {D U:Dk} (p:Par D U) {k:Nat} (h:fI D k):fI U k:=
 ⟨fun s hs q hq=>by have:=h.logs s hs q (p.ar▸hq);unfold Dk.jb at this ⊢;rw [p.ar,p.aX] at this;exact this,fun s hs=>by have:=h.sups s hs;rw [p.aX] at this;exact this⟩
theorem Rn.lv {D U:Dk} {J J':Jn} {aT:List (List Nat)} (x:Rn D U J J' aT):Lv D J.gen aT J.gen:=by
 obtain ⟨s,hs⟩:=x.sup
 have p:=x.par
 exact ⟨p.len,x.four,p.gv x.gv,.inr ⟨s,J.ak,J.gen,hs.aC (fun b _=>p.aX b),x.has.bears.aC p.ar (fun q _=>p.aX _),Nat.le_refl _⟩⟩
theorem Nf.gv {D F T:Dk} {k m:Nat} (nf:Nf D F T) (h4:4≤D.n) (hF:F.n=D.n) (hT:T.n=D.n) (kd:fI D k) (kf:fI F m) (hm:k≤m):fI T m:=by
 have haT:T.ar=D.ar:=by unfold Dk.ar;rw [hT]
 have haF:F.ar=D.ar:=by unfold Dk.ar;rw [hF]
 refine ⟨fun s hs p hp h => ?_,fun s hs h => ?_⟩
 ·rw [haT] at hp
  have hin:=D.fA hs (by omega)
  have h1:=kd.logs s hs p hp
  have h2:=kf.logs s hs p (by omega)
  unfold Dk.jb at h h1 h2 ⊢
  rw [haT] at h ⊢
  rw [haF] at h2
  rcases nf (2+s*D.ar+p) (by omega) with e|e|e
  ·rw [e] at h ⊢
   exact Nat.le_trans (h1 h) hm
  ·rw [e] at h ⊢
   exact h2 h
  ·rw [logOk_right e] at h;cases h
 ·rcases nf s (by omega) with e|e|e
  ·rw [e] at h ⊢
   exact Nat.le_trans (kd.sups s hs h) hm
  ·rw [e] at h ⊢
   exact kf.sups s hs h
  ·rw [superOk_right e] at h;cases h
theorem Lv.rewrite {D0 U0 D U:Dk} {k:Nat} {aT:List (List Nat)} {gen:Nat} (x:Lv D0 k aT gen) (hk:k<18446744073709551615) (hb : ∀ y∈D0.aW,y<256) (p:Par D U) (hD1:D.aW=D0.aW) (hD2:D.n=D0.n) (hU1:U0.aW=D0.aW) (hU2:U0.n=D0.n) (hl:D0.jn.live D=true) (hl':U0.jn.live U=true) :
  ∃ F j' ps,U0.jn.rewrite U aT=(0,F,j',ps)∧((∃ E j,D0.jn.rewrite D aT=(0,E,j,ps)∧Rn E F j j' aT∧gen<j.gen∧j.gen≤k+1∧E.aU=D.aU) ∨
    (∃ T,D0.jn.rewrite D aT=(9,T,D0.jn,[])∧(Nf D F T→Lv T (k+1) aT gen))):=by
 have xD:Lv D k aT gen:=x.cong hD1 hD2
 have h4:=xD.four
 have kJ:fI D0 D0.jn.known:=⟨fun s hs q hq=>(D0.opened.openJ_knows D0.opened.aU).logs s hs q hq,fun s hs=>(D0.opened.openJ_knows D0.opened.aU).sups s hs⟩
 have hJk:D0.jn.known≤k:=fI.cz (D:=D0.opened) ⟨fun s hs q hq=>x.gv.logs s hs q hq,fun s hs=>x.gv.sups s hs⟩ _
 have hjs:=jn_same hU1 hU2
 have g1:U0.jn.slot=D0.jn.slot:=by rw [hjs];rfl
 have g2:U0.jn.ak=D0.jn.ak:=by rw [hjs];rfl
 have g3:U0.jn.known=D0.jn.known:=by rw [hjs];rfl
 have g4:U0.jn.aU=U0.opened.aU:=by rw [hjs];rfl
 have kD:fI D D0.jn.known:=(Lv.cong (k:=D0.jn.known) ⟨x.len,x.four,kJ,x.st⟩ hD1 hD2).gv
 have hJ:=x.jn
 have jok:iD U0.jn U:=iD.of_n (D:=U0.opened) (openJ_jok (D:=U0.opened) (by show ∀ y∈U0.aW,_;rw [hU1];exact hb) _) (by rw [←p.n,hD2];exact hU2.symm)
 have hv : ∀ r∈aT,r.length≤20000 ∧ ∀ y∈r,y<256:=by
  rcases hJ with ⟨_,_,rfl,_⟩|⟨s,_,_,b,_⟩
  ·intro r hr;cases hr
  ·exact b.ok
 have hfit:aG aT≤D.ar:=by
  rcases xD.st with ⟨_,_,rfl,_⟩|⟨_,_,_,_,b,_⟩
  ·rw [fw];omega
  ·exact b.fit
 obtain ⟨F,s,f1,f2,f3,f4,f5,f6,f7,f8⟩:=rewrite_par p h4 hl hl' g1 g2 g3 hv hfit (by omega) jok (p.knows' kD)
 refine ⟨F,_,_,f2,?_⟩
 have hFn:F.n=D.n:=f3.n.trans p.n.symm
 have hFar:F.ar=D.ar:=f3.ar.trans p.ar.symm
 have hgk:gen≤D0.jn.known:=by
  rcases hJ with ⟨_,_,_,h,_⟩|⟨sl,_,sp,_,h⟩
  ·omega
  ·have:=kJ.sups sl sp.s sp.ok
   rw [sp.g] at this
   omega
 have hs1:=f5.s
 have hDar:D.ar=(D.n-2)/2:=rfl
 have hna:=D0.jn.gl
 have hin:=D.fA hna (by omega)
 have f7' : ∀ b,b<D.n→b≠s→(b<2+D0.jn.az*D.ar∨2+D0.jn.az*D.ar+aG aT≤b)→F.aX b=D.aX b:=fun b h1 h2 h3=>by rw [f7 b h1 h2 h3,p.aX]
 rcases f8 with ⟨E,e1,e2,e3⟩|⟨T,t1,t2⟩
 ·refine .inl ⟨E,_,e1,⟨e2,by rw [e2.n,hFn];exact h4,?_,?_,rfl,rfl,rfl,rfl,rfl,rfl,f4,?_,⟨s,f5⟩,f6⟩,by show gen<D0.jn.known+1;omega,by show D0.jn.known+1≤k+1;omega,e3⟩
  ·unfold Jn.live at hl ⊢
   rw [e2.down,e3]
   rw [p.down] at hl
   exact hl
  ·unfold Jn.live at hl' ⊢
   rw [f3.down,f3.aU]
   exact hl'
  ·show ∀ q,aG aT≤q→q<F.ar→db q (F.jb D0.jn.az q)=false∨bG (F.jb D0.jn.az q)≠D0.jn.known+1
   intro q h1 h2
   rw [hFar] at h2
   unfold Dk.jb
   rw [hFar,f7' _ (by omega) (by omega) (by omega)]
   cases hlo:db q (D.aX (2+D0.jn.az*D.ar+q)) with
   |false=>exact .inl rfl
   |true=>
    have:=kD.logs D0.jn.az hna q h2 hlo
    unfold Dk.jb at this
    exact .inr (by omega)
 ·refine .inr ⟨T,t1,fun nf => ?_⟩
  have hTn:T.n=D.n:=by cases t2 with|log c y _=>exact y.n|super n _ _ _=>exact n
  have hTl:T.aW.length=D.aW.length:=by cases t2 with|log c y _=>exact y.len|super _ _ n _=>exact n
  have hTar:T.ar=D.ar:=by unfold Dk.ar;rw [hTn]
  refine ⟨by rw [hTl,hTn];exact xD.len,by rw [hTn];exact h4,nf.gv h4 hFn hTn kD (f6.mono (by omega)) (by omega),?_⟩
  have hold : ∀ (T':Dk),T'.ar=D.ar→(∀ b,b<D.n→b≠s→(b<2+D0.jn.az*D.ar∨2+D0.jn.az*D.ar+aG aT≤b)→T'.aX b=D.aX b)→(bB (T'.aX s)=true→T'.aX s=D.aX s) →
    ((bB (T'.aX 0)=false∧bB (T'.aX 1)=false∧aT = []∧gen=0) ∨ ∃ slot ak g,Sup T' slot ak g∧Bears T' ak g aT∧gen≤g):=by
   intro T' ha h1 h2
   rcases hJ with ⟨a0,a1,a2,a3,a4⟩|⟨sl,q1,sp,br,q2⟩
   ·have hs0:s=0:=by
     unfold Jn.a9 at f1
     rw [a4] at f1
     simp at f1
     omega
    subst hs0
    have hb0:D.aX 0=D0.aX 0:=by unfold Dk.aX;rw [hD1]
    have hb1:D.aX 1=D0.aX 1:=by unfold Dk.aX;rw [hD1]
    refine .inl ⟨?_,by rw [h1 1 (by omega) (by omega) (by omega),hb1];exact a1,a2,a3⟩
    cases h0:bB (T'.aX 0) with
    |false=>rfl
    |true=>
     have e:=h2 h0
     rw [e,hb0,a0] at h0
     cases h0
   ·have hsl:s=1-sl:=by
     have:=sp.s
     unfold Jn.a9 at f1
     rw [q1,if_pos (by omega)] at f1
     omega
    have hsp:Sup D sl D0.jn.ak D0.jn.gen:=sp.aC (fun b _=>by unfold Dk.aX;rw [hD1])
    have hbr:Bears D D0.jn.ak D0.jn.gen aT:=br.aC (by unfold Dk.ar;rw [hD2]) (fun b _=>by unfold Dk.aX;rw [hD1])
    have hsl1:=sp.s
    have ha1:=br.a
    have hnew:D0.jn.az=1-D0.jn.ak:=by unfold Jn.az;rw [q1,if_pos (by omega)]
    have hbs:=h1 sl (by omega) (by omega) (by omega)
    refine .inr ⟨sl,D0.jn.ak,D0.jn.gen,⟨hsl1,by rw [hbs];exact hsp.ok,by rw [hbs];exact hsp.g,by rw [hbs];exact hsp.a,?_⟩,hbr.aC ha (fun q hq => ?_),q2⟩
    ·rw [←hsl]
     intro hh
     have e:=h2 hh
     rw [e] at hh ⊢
     have:=hsp.other
     rw [←hsl] at this
     exact this hh
    ·have hin2:=D.fA ha1 (by omega)
     refine h1 _ (by omega) (by omega) ?_
     rw [hnew]
     rcases (show D0.jn.ak=0∨D0.jn.ak=1 by omega) with e|e
     ·rw [e];omega
     ·rw [e];omega
  cases t2 with
  |log c y hc=>
   refine hold T hTar (fun b h1 _ h3=>y.bJ b h1 (by omega)) (fun _=>y.bJ s (by omega) (by omega))
  |super n d l y=>
   by_cases hall:T.aX s=F.aX s
   ·have hTF : ∀ b,b<D.n→T.aX b=F.aX b:=fun b hb=>by
     by_cases h:b=s
     ·rw [h,hall]
     ·exact y b hb h
    have hin2:=D.fA f4.a (by omega)
    have hgg:gen≤D0.jn.known+1:=by omega
    exact .inr ⟨s,_,_,f5.aC (fun b hb=>hTF b (by omega)),f4.bears.aC (hTar.trans hFar.symm) (fun q hq=>by rw [hFar] at hq ⊢;exact hTF _ (by omega)),hgg⟩
   ·refine hold T hTar (fun b h1 h2 h3=>by rw [y b h1 h2,f7' b h1 h2 h3]) (fun h => ?_)
    rcases nf s (by omega) with e|e|e
    ·exact e
    ·exact absurd e hall
    ·rw [superOk_right e] at h;cases h
theorem Rn.append {D U:Dk} {J J':Jn} {aT:List (List Nat)} (x:Rn D U J J' aT) {r:List Nat} (hb : ∀ y∈r,y<256) (har:D.ar≤4096) :
  (∃ e,(e=3∨e=8)∧J.append D r=(e,D,J)∧J'.append U r=(e,U,J')) ∨
  (∃ F j',J'.append U r=(0,F,j')∧((∃ E j,J.append D r=(0,E,j)∧Rn E F j j' (aT ++ [r])∧j.gen=J.gen∧E.aU=D.aU) ∨
   (∃ T,J.append D r=(9,T,J)∧(Nf D F T → ∃ recs',(recs'=aT∨recs'=aT ++ [r])∧Lv T J.gen recs' J.gen)))):=by
 have p:=x.par
 have H:=x.has
 have h4:=x.four
 have hfit0:=H.fit
 rw [←p.ar] at hfit0
 have htot:aG (aT ++ [r])=aG aT+aQ r.length:=by rw [recsTot_append,cO,fw];omega
 rcases append_par p H.a x.live x.live' x.ak x.gen x.same x.ready x.ready' (by rw [x.fin];exact hfit0) (r:=r) with ⟨_,a,b⟩|⟨_,_,a,b⟩|⟨h20,hfit,F,f1,f2,f3⟩
 ·exact .inl ⟨3,.inl rfl,a,b⟩
 ·exact .inl ⟨8,.inr rfl,a,b⟩
 refine .inr ⟨F,_,f1,?_⟩
 obtain ⟨F',e1,e2,e3,e4⟩:=wrRec_up p.up (gen:=J.gen) (at_:=J.fin) (r:=r) H.a (by rw [←p.ar];exact hfit)
 have hFF:F'=F:=(Prod.mk.inj (e1.symm.trans f2)).2
 subst hFF
 have hpos:=fm r.length
 have hin:=D.fA H.a (by omega)
 have hFar:F'.ar=D.ar:=e2.ar.trans p.ar.symm
 have hFn:F'.n=D.n:=e2.n.trans p.n.symm
 rw [←p.ar] at e4
 have hfin:=x.fin
 have hFnew : ∀ i,i<aQ r.length→F'.aX (2+J.ak*D.ar+(J.fin+i))=cS J.gen (J.fin+i) i (aQ r.length) (chunk r i):=fun i hi=>by
  have:=e3 i hi
  unfold Dk.jb at this
  rw [hFar] at this
  exact this
 have hHas:Has F' J.ak J.gen (aT ++ [r]):=by
  refine ⟨H.a,H.g,?_,by rw [htot,hFar];omega,?_,?_⟩
  ·intro q hq
   rcases List.mem_append.1 hq with hq|hq
   ·exact H.ok q hq
   ·rw [List.mem_singleton] at hq
    subst hq
    exact ⟨h20,hb⟩
  ·intro e he
   rw [layR_append,Nat.zero_add] at he
   rcases List.mem_append.1 he with he|he
   ·have hbd:=iy _ _ _ he
    exact (H.dY e he).aC e2.ar (fun i hi=>by rw [←p.ar];exact e4 _ (by rw [←p.n];omega) (by omega))
   ·rw [ee,ee,List.mem_singleton] at he
    subst he
    rw [←hfin]
    exact e3
  ·intro q h1 h2
   rw [htot] at h1
   rw [hFar] at h2
   have hrs:=H.rest q (by omega) (by rw [←p.ar];exact h2)
   unfold Dk.noB Dk.jb at hrs ⊢
   rw [hFar,e4 _ (by rw [←p.n];omega) (by omega)]
   rw [←p.ar] at hrs
   exact hrs
 have hCl:Clear F' J.ak J.gen (aG (aT ++ [r])):=by
  intro q h1 h2
  rw [htot] at h1
  rw [hFar] at h2
  have hrs:=x.clear q (by omega) (by rw [←p.ar];exact h2)
  unfold Dk.jb at hrs ⊢
  rw [hFar,e4 _ (by rw [←p.n];omega) (by omega)]
  rw [←p.ar] at hrs
  exact hrs
 obtain ⟨s,hsup⟩:=x.sup
 have hsup':Sup F' s J.ak J.gen:=hsup.aC (fun b hb=>e4 b (by rw [←p.n];omega) (by omega))
 have hkn:fI F' J.gen:=by
  refine ⟨fun t ht q hq h => ?_,fun t ht h => ?_⟩
  ·rw [hFar] at hq
   unfold Dk.jb at h ⊢
   rw [hFar] at h ⊢
   by_cases hw:t=J.ak∧J.fin≤q∧q<J.fin+aQ r.length
   ·obtain ⟨rfl,w1,w2⟩:=hw
    have:=hFnew (q-J.fin) (by omega)
    rw [show J.fin+(q-J.fin)=q by omega] at this
    rw [this,logGen_log H.g]
    omega
   ·have hin2:=D.fA ht (by omega)
    have hout:F'.aX (2+t*D.ar+q)=U.aX (2+t*D.ar+q):=by
     refine e4 _ (by rw [←p.n];omega) ?_
     have ha:=H.a
     by_cases hta:t=J.ak
     ·subst hta;omega
     ·rcases (show (t=0∧J.ak=1)∨(t=1∧J.ak=0) by omega) with ⟨h1,h2⟩|⟨h1,h2⟩
      ·rw [h1,h2];omega
      ·rw [h1,h2];omega
    rw [hout] at h ⊢
    have:=x.gv.logs t ht q (by rw [←p.ar];exact hq)
    unfold Dk.jb at this
    rw [←p.ar] at this
    exact this h
  ·rw [e4 t (by rw [←p.n];omega) (by omega)] at h ⊢
   exact x.gv.sups t ht h
 rcases f3 with ⟨E,g1,g2,g3⟩|⟨T,c,g1,g2,g3,g4⟩
 ·refine .inl ⟨E,_,g1,⟨g2,by rw [g2.n,hFn];exact h4,?_,?_,x.ak,x.gen,rfl,x.ready,x.ready',by rw [htot,←hfin],hHas,hCl,⟨s,hsup'⟩,hkn⟩,rfl,g3⟩
  ·have hl:=x.live
   unfold Jn.live at hl ⊢
   rw [g2.down,g3]
   rw [p.down] at hl
   exact hl
  ·have hl:=x.live'
   unfold Jn.live at hl ⊢
   rw [e2.down,e2.aU]
   exact hl
 ·refine .inr ⟨T,g1,fun nf => ?_⟩
  have hTar:T.ar=D.ar:=by unfold Dk.ar;rw [g2.n]
  have hkT:=nf.gv h4 hFn g2.n (p.gv x.gv) hkn (Nat.le_refl _)
  have hTl:T.aW.length=128*T.n:=by rw [g2.len,g2.n];exact p.len
  by_cases hall:T.aX c=F'.aX c∧c+1=2+J.ak*D.ar+J.fin+aQ r.length
  ·obtain ⟨hc1,hc2⟩:=hall
   have hTF : ∀ b,b<D.n→T.aX b=F'.aX b:=by
    intro b hbn
    by_cases h1:b=c
    ·rw [h1,hc1]
    by_cases h2:2+J.ak*D.ar+J.fin≤b∧b<c
    ·exact g2.new b hbn h2.1 h2.2
    ·rw [g2.bJ b hbn (by omega),e4 b (by rw [←p.n];exact hbn) (by omega),p.aX]
   exact ⟨_,.inr rfl,hTl,by rw [g2.n];exact h4,hkT,.inr ⟨s,J.ak,J.gen,hsup'.aC (fun b hb=>hTF b (by omega)),hHas.bears.aC (hTar.trans hFar.symm) (fun q hq=>by rw [hFar] at hq ⊢;exact hTF _ (by omega)),Nat.le_refl _⟩⟩
  ·have hDU : ∀ b,D.aX b=U.aX b:=p.aX
   have hTo : ∀ b,b<D.n→b<2+J.ak*D.ar+J.fin∨c<b→T.aX b=U.aX b:=fun b h1 h2=>by rw [g2.bJ b h1 h2,hDU]
   have hsT:Sup T s J.ak J.gen:=hsup.aC (fun b hb=>hTo b (by omega) (by omega))
   refine ⟨aT,.inl rfl,hTl,by rw [g2.n];exact h4,hkT,.inr ⟨s,J.ak,J.gen,hsT,⟨H.a,H.g,H.ok,by rw [hTar];exact hfit0,?_,?_⟩,Nat.le_refl _⟩⟩
   ·intro e he
    have hbd:=iy _ _ _ he
    exact (H.dY e he).aC (hTar.trans p.ar) (fun i hi=>by rw [←p.ar];exact hTo _ (by omega) (by omega))
   ·
    have hcl : ∀ q,J.fin≤q→q<D.ar→c<2+J.ak*D.ar+q→db q (T.jb J.ak q)=false∨bG (T.jb J.ak q)≠J.gen:=by
     intro q h1 h2 h3
     have:=x.clear q (by omega) (by rw [←p.ar];exact h2)
     unfold Dk.jb at this ⊢
     rw [hTar,hTo _ (by omega) (.inr h3)]
     rw [←p.ar] at this
     exact this
    have hcc:db (c-(2+J.ak*D.ar)) (T.jb J.ak (c-(2+J.ak*D.ar)))=false∨bG (T.jb J.ak (c-(2+J.ak*D.ar)))≠J.gen∨T.aX c=F'.aX c:=by
     have e:T.jb J.ak (c-(2+J.ak*D.ar))=T.aX c:=by unfold Dk.jb;rw [hTar];congr 1;omega
     rw [e]
     rcases nf c (by omega) with h|h|h
     ·have:=x.clear (c-(2+J.ak*D.ar)) (by omega) (by rw [←p.ar];omega)
      unfold Dk.jb at this
      rw [←p.ar,show 2+J.ak*D.ar+(c-(2+J.ak*D.ar))=c by omega,←hDU,←h] at this
      rcases this with h|h
      ·exact .inl h
      ·exact .inr (.inl h)
     ·exact .inr (.inr h)
     ·exact .inl (logOk_right h)
    have hnew : ∀ i,i<aQ r.length→2+J.ak*D.ar+(J.fin+i)<c∨(2+J.ak*D.ar+(J.fin+i)=c∧T.aX c=F'.aX c)→T.jb J.ak (J.fin+i)=cS J.gen (J.fin+i) i (aQ r.length) (chunk r i):=by
     intro i hi h
     unfold Dk.jb
     rw [hTar,←hFnew i hi]
     rcases h with h|⟨h,h'⟩
     ·exact g2.new _ (by omega) (by omega) h
     ·rw [h,h']
    have hcost:=fj (n:=r.length) (by omega)
    intro q h1 h2
    rw [hTar] at h2
    by_cases hq0:q=J.fin
    ·subst hq0
     have hmiss : ∃ i,i<aQ r.length∧(db (J.fin+i) (T.jb J.ak (J.fin+i))=false∨bG (T.jb J.ak (J.fin+i))≠J.gen)∧((∃ k,0<i∧k=0)→2+J.ak*D.ar+J.fin<c∨(2+J.ak*D.ar+J.fin=c∧T.aX c=F'.aX c)):=by
      rcases hcc with h|h|h
      ·exact ⟨c-(2+J.ak*D.ar+J.fin),by omega,by rw [show J.fin+(c-(2+J.ak*D.ar+J.fin))=c-(2+J.ak*D.ar) by omega];exact .inl h,fun ⟨_,h,_⟩ => .inl (by omega)⟩
      ·exact ⟨c-(2+J.ak*D.ar+J.fin),by omega,by rw [show J.fin+(c-(2+J.ak*D.ar+J.fin))=c-(2+J.ak*D.ar) by omega];exact .inr h,fun ⟨_,h,_⟩ => .inl (by omega)⟩
      ·have hlt:c+1<2+J.ak*D.ar+J.fin+aQ r.length:=by
        have : ¬(c+1=2+J.ak*D.ar+J.fin+aQ r.length):=fun e=>hall ⟨h,e⟩
        omega
       refine ⟨c+1-(2+J.ak*D.ar+J.fin),by omega,hcl _ (by omega) (by omega) (by omega),fun _ => ?_⟩
       by_cases hc:2+J.ak*D.ar+J.fin=c
       ·exact .inr ⟨hc,h⟩
       ·exact .inl (by omega)
     obtain ⟨i,i1,i2,i3⟩:=hmiss
     by_cases hi0:i=0
     ·subst hi0
      refine Dk.noB.bg ?_
      rcases i2 with h|h
      ·exact .inl h
      ·exact .inr (.inl h)
     ·have hn0:=hnew 0 hpos (by rw [Nat.add_zero];exact i3 ⟨0,by omega,rfl⟩)
      rw [Nat.add_zero] at hn0
      have hparts:T.parts J.ak J.fin=aQ r.length:=by
       unfold Dk.parts
       rw [hn0,iH (by omega)]
      refine Dk.iw (i:=i) (.inl (by rw [hparts];exact i1)) ?_
      unfold Dk.part
      rcases i2 with h|h
      ·rw [h];rfl
      ·rw [beq_eq_false_iff_ne.2 h];simp
    ·by_cases hqc:2+J.ak*D.ar+q<c∨(2+J.ak*D.ar+q=c∧T.aX c=F'.aX c)
     ·have:=hnew (q-J.fin) (by omega) (by rw [show J.fin+(q-J.fin)=q by omega];exact hqc)
      rw [show J.fin+(q-J.fin)=q by omega] at this
      refine Dk.noB.bg (.inr (.inr ?_))
      rw [this,logPart_log (by omega)]
      omega
     ·refine Dk.noB.bg ?_
      by_cases hqe:2+J.ak*D.ar+q=c
      ·have hqq:c-(2+J.ak*D.ar)=q:=by omega
       rw [hqq] at hcc
       rcases hcc with h|h|h
       ·exact .inl h
       ·exact .inr (.inl h)
       ·exact absurd ⟨hqe,h⟩ (fun hh=>hqc (.inr hh))
      ·rcases hcl q (by omega) h2 (by omega) with h|h
       ·exact .inl h
       ·exact .inr (.inl h)
end Go.Proofs.Ytcmfgmhadeeieaa

namespace Go.Proofs.Ytcmfgmhadeeieaa
open Go Go.Abs
open Go.ChangeShapes Go.WideShapes Go.ChangeAt Go.RowKit
def bk (l:List Nat) (b:Nat):List Nat:=(l.drop (b*128)).take 128
def badB (W S T:List Nat) (b:Nat):Bool := !decide (bk T b=bk W b) && !decide (bk T b=bk S b)&&right (bk T b)
def fgB (n:Nat) (W S T:List Nat):Bool:=(List.range n).any (badB W S T)
theorem fgB_nf {D F T:Dk} (h:fgB D.n D.aW F.aW T.aW=false):Nf D F T:=by
 intro b hb
 have:=List.any_eq_false.1 h b (List.mem_range.2 hb)
 unfold badB at this
 by_cases h1:T.aX b=D.aX b
 ·exact .inl h1
 by_cases h2:T.aX b=F.aX b
 ·exact .inr (.inl h2)
 refine .inr (.inr ?_)
 have e1:decide (bk T.aW b=bk D.aW b)=false:=decide_eq_false h1
 have e2:decide (bk T.aW b=bk F.aW b)=false:=decide_eq_false h2
 rw [e1,e2] at this
 have e3:right (bk T.aW b)=right (T.aX b):=rfl
 rw [e3] at this
 cases hr:right (T.aX b) with
 |false=>rfl
 |true=>rw [hr] at this;simp at this
theorem is41:cA Try.prog 41 Try.f41:=⟨by kernel_rfl,by kernel_rfl,by kernel_rfl,by kernel_rfl⟩
theorem results41:Try.f41.results.toList = [.tmp 6]:=by kernel_rfl
theorem b41_exit (C:al) (e:Env) (h:ah):b41_3 C 0 e h=k41_1 C e h:=rfl
section
variable {h:ah} {a0 a1 a2:Option Addr} {n c0 c1 c2:Nat} {W S T:List Nat} (g0:cQ a0 (128*n) c0=true) (g1:cQ a1 (128*n) c1=true) (g2:cQ a2 (128*n) c2=true)
 (e0:av a0 (128*n) h=some W) (e1:av a1 (128*n) h=some S) (e2:av a2 (128*n) h=some T) (hn:n≤4096)
def fgInv (h:ah) (n:Nat) (v0 v1 v2:Value) (W S T:List Nat) (k:Nat) (y:Nat→Value) (g:ah):Prop:=
 ∃ i,i+k=n∧y 0=v0∧y 1=v1∧y 2=v2∧y 7=aq (128*i)∧g=h∧(List.range i).any (badB W S T)=false
def fgFin (h:ah) (n:Nat) (W S T:List Nat) (ex:Ex) (y:Nat→Value) (g:ah):Prop:=
 g=h∧((ex = .ret∧y 6 = .bool true∧fgB n W S T=true)∨(ex = .exit 0∧fgB n W S T=false))
include g0 g1 g2 e0 e1 e2 hn
theorem fg_round : ∀ k y g,fgInv h n (.slice a0 (128*n) c0) (.slice a1 (128*n) c1) (.slice a2 (128*n) c2) W S T k y g→cY 47 (fgInv h n (.slice a0 (128*n) c0) (.slice a1 (128*n) c1) (.slice a2 (128*n) c2) W S T) (fgFin h n W S T) k (t41l41_1010 CD y g):=by
 rintro k y g ⟨i,hik,y0,y1,y2,y7,rfl,hany⟩
 have hlen:cH (.slice a2 (128*n) c2)=some (aq (128*n)):=rfl
 have hle0:=fH g0
 have hle1:=fH g1
 have hle2:=fH g2
 unfold t41l41_1010
 simp -implicitDefEqProofs only [y7,y2,hlen,af,aj,fT]
 by_cases hi:128*i<128*n
 ·obtain ⟨p0,q0,s0,t0,_⟩:=dP (lo:=128*i) (hi:=128*i+128) (vl:=some (aq (128*i))) (vh:=some (aq (128*i+128))) g0 e0 (by omega) (by omega) (by
   unfold bZ aq
   simp only
   rw [if_pos (by omega),Int.toNat_natCast]) (by
   unfold bZ aq
   simp only
   rw [if_pos (by omega),Int.toNat_natCast])
  obtain ⟨p1,q1,s1,t1,_⟩:=dP (lo:=128*i) (hi:=128*i+128) (vl:=some (aq (128*i))) (vh:=some (aq (128*i+128))) g1 e1 (by omega) (by omega) (by
   unfold bZ aq
   simp only
   rw [if_pos (by omega),Int.toNat_natCast]) (by
   unfold bZ aq
   simp only
   rw [if_pos (by omega),Int.toNat_natCast])
  obtain ⟨p2,q2,s2,t2,u2⟩:=dP (lo:=128*i) (hi:=128*i+128) (vl:=some (aq (128*i))) (vh:=some (aq (128*i+128))) g2 e2 (by omega) (by omega) (by
   unfold bZ aq
   simp only
   rw [if_pos (by omega),Int.toNat_natCast]) (by
   unfold bZ aq
   simp only
   rw [if_pos (by omega),Int.toNat_natCast])
  have hb : ∀ l:List Nat,(l.drop (128*i)).take (128*i+128-128*i)=bk l i:=fun l=>by unfold bk;rw [show 128*i+128-128*i=128 by omega,Nat.mul_comm]
  have hd:128*i+128-128*i=128:=by omega
  rw [hb] at t0 t1 t2
  have c0':=iO (c:=q0) t0
  have c1':=iO (c:=q1) t1
  have c2':=iO (c:=q2) t2
  rw [hd] at u2
  have hr:=r72 (c:=q2) (n:=128*i+128-128*i) t2 (by rw [hd];exact u2) hd
  have b0:=(aw t0).2.1
  have b1:=(aw t1).2.1
  have b2:=(aw t2).2.1
  have ad:bin Try.prog .add 3 (aq (128*i)) (.int .i64 128)=some (aq (128*i+128)):=gY (b:=128) (by omega)
  have hrec:(List.range (i+1)).any (badB W S T)=badB W S T i:=by
   rw [List.range_succ,List.any_append,hany];simp
  simp -implicitDefEqProofs only [decide_eq_true hi,ad,s2,c2',y0,s0,c0',bin_str_neq,strOf_inj b2 b0,af,aj,ay]
  have next:badB W S T i=false→fgInv g n (.slice a0 (128*n) c0) (.slice a1 (128*n) c1) (.slice a2 (128*n) c2) W S T (k-1) y g→True:=fun _ _=>trivial
  by_cases d1:bk T i=bk W i
  ·simp -implicitDefEqProofs only [decide_eq_true d1,Bool.not_true,fs,aF,af,ay,Bool.false_eq_true,if_false]
   refine cY.next (k-1) (by omega) ⟨i+1,by omega,y0,y1,y2,by show aq (128*i+128)=_;rw [show 128*(i+1)=128*i+128 by omega],rfl,?_⟩
   rw [hrec]
   unfold badB
   rw [decide_eq_true d1];rfl
  ·simp -implicitDefEqProofs only [decide_eq_false d1,Bool.not_false,beq_self_eq_true,aA,y1,ad,s1,c1',strOf_inj b2 b1,af,aj,ay,if_true,bin_str_neq]
   by_cases d2:bk T i=bk S i
   ·simp -implicitDefEqProofs only [decide_eq_true d2,Bool.not_true,fs,aF,af,ay,Bool.false_eq_true,if_false]
    refine cY.next (k-1) (by omega) ⟨i+1,by omega,y0,y1,y2,by show aq (128*i+128)=_;rw [show 128*(i+1)=128*i+128 by omega],rfl,?_⟩
    rw [hrec]
    unfold badB
    rw [decide_eq_true d2,Bool.not_true,Bool.and_false];rfl
   ·simp -implicitDefEqProofs only [decide_eq_false d2,Bool.not_false,beq_self_eq_true,aA,y2,ad,s2,hr,af,aj,ay,if_true]
    cases hR:right (bk T i) with
    |true=>
     simp -implicitDefEqProofs only [af]
     refine cY.ret ⟨rfl,.inl ⟨rfl,rfl,?_⟩⟩
     unfold fgB
     rw [List.any_eq_true]
     refine ⟨i,List.mem_range.2 (by omega),?_⟩
     unfold badB
     rw [decide_eq_false d1,decide_eq_false d2,hR];rfl
    |false=>
     simp -implicitDefEqProofs only [af,aj]
     refine cY.next (k-1) (by omega) ⟨i+1,by omega,y0,y1,y2,by show aq (128*i+128)=_;rw [show 128*(i+1)=128*i+128 by omega],rfl,?_⟩
     rw [hrec]
     unfold badB
     rw [hR,Bool.and_false]
 ·simp -implicitDefEqProofs only [decide_eq_false hi]
  refine cY.out 0 ⟨rfl,.inr ⟨rfl,?_⟩⟩
  have:i=n:=by omega
  rw [this] at hany
  exact hany
theorem r41:CD 41 [.slice a0 (128*n) c0,.slice a1 (128*n) c1,.slice a2 (128*n) c2] h=some (.bool (fgB n W S T),h):=by
 refine aO is41 rfl ((t41_eq _ _ _ _ _).trans ?_)
 unfold t41
 simp -implicitDefEqProofs only [af]
 refine cn (Q:=fun o:Out=>o=some (Value.bool (fgB n W S T),h)) (cg (t41l41_1010_eq CD) (fg_round g0 g1 g2 e0 e1 e2 hn) n (by have:rounds=18446744073709551616:=rfl;omega)
  ⟨0,Nat.zero_add _,rfl,rfl,rfl,rfl,rfl,rfl⟩) ?_
 rintro ex z g ⟨rfl,⟨rfl,z4,he⟩|⟨rfl,he⟩⟩
 ·rw [iG,res_one (t:=6) results41 (by decide),z4,he]
 ·simp -implicitDefEqProofs only [bA,b41_exit,t41k41_1_eq]
  unfold t41k41_1
  rw [af,he]
end
structure LifeD where
 ca:Bool
 after:Int
 aC:Int
 aT:List (List Nat)
def lfC (l:LifeD) (w:Value):dW := [.bool l.ca,.int .i64 l.after,.int .i64 l.aC,w]
structure LifeV (h:ah) (k:dW) (o:Nat) (l:LifeD):Prop where
 ca:k[o]? = some (.bool l.ca)
 after:k[o+1]? = some (.int .i64 l.after)
 aC:k[o+2]? = some (.int .i64 l.aC)
 aT : ∃ v,k[o+3]? = some v∧isHole v=false∧fx h v l.aT
 wf:eS l.after=true∧eS l.aC=true
def LivesV (h:ah) (v:Value) (ls:List LifeD):Prop:=
 ∃ a n c,v = .slice a n c∧ls.length=n∧n≤maxLen ∧ ∀ i,i<n → ∃ b off s k,a=some ⟨b,off,s⟩∧h.get b=some k ∧ ∃ l,ls[i]? = some l∧LifeV h k (off+i*4) l
theorem LivesV.len {h:ah} {v:Value} {ls:List LifeD} (x:LivesV h v ls):cH v=some (aq ls.length):=by
 obtain ⟨a,n,c,rfl,h1,_⟩:=x
 rw [h1];rfl
theorem LivesV.at {h:ah} {v:Value} {ls:List LifeD} (x:LivesV h v ls) {i:Nat} (hi:i<ls.length) : ∃ b o w l,ls[i]? = some l∧cd 4 v (aq i)=some (ptr b o)∧(∀ h',Old h h'→ch 4 (ptr b o) h'=some (.agg (lfC l w).toArray,h')∧ba (ptr b (o+3)) h'=some (w,h'))∧fx h w l.aT∧eS l.after=true∧eS l.aC=true:=by
 obtain ⟨a,n,c,rfl,h1,h2,h3⟩:=x
 obtain ⟨b,off,s,k,rfl,h4,l,h5,h6⟩:=h3 i (by omega)
 obtain ⟨w,k3,hh,hr⟩:=h6.aT
 have hw1:w.cells = #[w]:=by obtain ⟨_,_,_,rfl,_⟩:=hr;rfl
 refine ⟨b,off+i*4,w,l,h5,?_,fun h' o => ?_,hr,h6.wf⟩
 ·unfold cd
  simp only [aq]
  rw [if_pos (by omega),Int.toNat_natCast]
 ·have hg:=Old.get o h4
  refine ⟨?_,?_⟩
  ·unfold ch ptr
   simp only [hg]
   have hd:(k.drop (off+i*4)).take 4=lfC l w:=by
    apply List.ext_getElem?
    intro j
    rw [List.getElem?_take]
    by_cases hj:j<4
    ·rw [if_pos hj,List.getElem?_drop]
     match j,hj with
     | 0,_=>exact h6.ca
     | 1,_=>exact h6.after
     | 2,_=>exact h6.aC
     | 3,_=>exact k3
    ·rw [if_neg hj,List.getElem?_eq_none (by show 4≤j;omega)]
   rw [hd]
   have hnh:Abs.cN (lfC l w)=true:=by
    unfold Abs.cN lfC
    rw [List.all_cons,List.all_cons,List.all_cons,List.all_cons,hh];rfl
   have hll:(k.drop (off+i*4)).length≥4:=by
    have:=congrArg List.length hd
    rw [List.length_take] at this
    have h4':(lfC l w).length=4:=rfl
    omega
   rw [if_pos ⟨by rw [List.length_drop] at hll;omega,hnh⟩]
  ·exact aN hg k3 hh
theorem is39:cA Try.prog 39 Try.f39:=⟨by kernel_rfl,by kernel_rfl,by kernel_rfl,by kernel_rfl⟩
theorem r39 {g:ah} {d:Nat} {D:Dk} (x:bf g d D) (hd:D.down=false) {l:LifeD} {w:Value} (hw:w.oneCell'=true∧w.cells = #[w]) (hA:eS l.after=true) :
  ∃ h' E,CD 39 [ptr d 0,.agg (lfC l w).toArray] g=some (.tuple #[],h')∧bf h' d E∧E.aW=D.aW∧E.n=D.n∧E.down=false∧E.aU=D.aU∧E.bb=D.bb∧dX d D.bb g h':=by
 have hbx:box (.agg (lfC l w).toArray) g=some (ptr g.next 0,g.alloc (lfC l w)):=box_at g _ (by
  unfold bK lfC
  simp [hw.1]
  exact ⟨rfl,rfl,rfl⟩)
 have oA:Old g (g.alloc (lfC l w)):=Kept.alloc _ _ _
 have gA:(g.alloc (lfC l w)).get g.next=some (lfC l w):=by rw [ah.aE,if_pos rfl]
 have l0:ba (ptr g.next 0) (g.alloc (lfC l w))=some (.bool l.ca,g.alloc (lfC l w)):=aN gA rfl rfl
 have l1:ba (ptr g.next 1) (g.alloc (lfC l w))=some (.int .i64 l.after,g.alloc (lfC l w)):=aN gA rfl rfl
 have l2:ba (ptr g.next 2) (g.alloc (lfC l w))=some (.int .i64 l.aC,g.alloc (lfC l w)):=aN gA rfl rfl
 have x0:=Old.dk oA x
 generalize g.alloc (lfC l w)=q0 at *
 cases hl:l.ca with
 |false=>
  rw [hl] at l0
  refine ⟨q0,D,aO is39 rfl ((t39_eq _ _ _ _).trans ?_),x0,rfl,rfl,hd,rfl,rfl,Kept.mono oA (fun _ _ h=>h.elim)⟩
  unfold t39
  simp -implicitDefEqProofs only [hbx,af,ax,Nat.zero_add,aj,l0]
 |true=>
  rw [hl] at l0
  have hA':l.after≤9223372036854775807:=by
   simp only [eS,Bool.and_eq_true,decide_eq_true_eq] at hA
   omega
  have like:=D.arm_like l.after l.aC
  have oka:Okd D (D.arm l.after l.aC).2:=by
   unfold Dk.arm
   split
   ·exact ⟨rfl,rfl,rfl,x.byte,x.after,x.aC⟩
   ·split
    ·exact ⟨rfl,rfl,rfl,x.byte,x.after,x.aC⟩
    ·rename_i hb
     exact ⟨rfl,rfl,rfl,x.byte,by show 0≤l.after∧l.after≤9223372036854775807;omega,by show 0≤l.aC∧l.aC≤128;omega⟩
  have e48:CD 48 [ptr d 0,.int .i64 l.after,.int .i64 l.aC] q0=some (.int .i64 (D.arm l.after l.aC).1,dh q0 d (D.arm l.after l.aC).2):=eO (by
   rw [X48]
   unfold s48 ptr
   simp only [x0.of]
   rw [if_pos hA'])
  have hdn:(D.arm l.after l.aC).2.down=false∧(D.arm l.after l.aC).2.aU=D.aU:=by
   unfold Dk.arm
   split
   ·exact ⟨hd,rfl⟩
   ·split
    ·exact ⟨hd,rfl⟩
    ·exact ⟨hd,rfl⟩
  refine ⟨_,_,aO is39 rfl ((t39_eq _ _ _ _).trans ?_),x0.put oka,like.aW,like.n,hdn.1,hdn.2,like.bb,Kept.bS (Kept.mono oA (fun _ _ h=>h.elim)) (putDk_only x0 oka.bb) (fun _ _ h=>h)⟩
  unfold t39
  simp -implicitDefEqProofs only [hbx,af,ax,Nat.zero_add,aj,l0,l1,l2,e48]
section
variable {H:Type} {enc:TypeId×Value→H} {W:World} {base:Nat} {held:Bool}
theorem cells67:Try.prog.cellsOf 67=4:=by kernel_rfl
theorem cells4:Try.prog.cellsOf 4=1:=by kernel_rfl
theorem four {α:Type} : ∀ {l:List α},l.length=4 → ∃ a b c d,l = [a,b,c,d]
 | [a,b,c,d],_=>⟨a,b,c,d,rfl⟩
theorem trod_life {fuel:Nat} {cs:List Value} {x:DataW H×List MemPlace} (h:DataW.trod enc Try.prog W base (fun _=>true) held fuel 67 cs=some x) :
  ∃ c0 c1 c2 c3 l,cs = [c0,c1,c2,c3]∧LifeV (fD W (view W)) [clean W.heap.size c0,clean W.heap.size c1,clean W.heap.size c2,clean W.heap.size c3] 0 l:=by
 obtain ⟨xs,n,_,_,hlen,hxl,hf⟩:=DataW.trod_struct Try.underlying67 h
 rw [cells67] at hlen
 obtain ⟨c0,c1,c2,c3,rfl⟩:=four hlen
 have f0:DataW.trod enc Try.prog W base (fun _=>true) held n 4 (([c0,c1,c2,c3].drop 0).take (Try.prog.cellsOf 4))=xs[0]? := hf 0 _ rfl
 rw [cells4] at f0
 have q0:DataW.trod enc Try.prog W base (fun _=>true) held n 4 [c0]=xs[0]? := f0
 have f1:DataW.trod enc Try.prog W base (fun _=>true) held n 3 (([c0,c1,c2,c3].drop 1).take (Try.prog.cellsOf 3))=xs[1]? := hf 1 _ rfl
 rw [cells3] at f1
 have q1:DataW.trod enc Try.prog W base (fun _=>true) held n 3 [c1]=xs[1]? := f1
 have f2:DataW.trod enc Try.prog W base (fun _=>true) held n 3 (([c0,c1,c2,c3].drop 2).take (Try.prog.cellsOf 3))=xs[2]? := hf 2 _ rfl
 rw [cells3] at f2
 have q2:DataW.trod enc Try.prog W base (fun _=>true) held n 3 [c2]=xs[2]? := f2
 have f3:DataW.trod enc Try.prog W base (fun _=>true) held n 31 (([c0,c1,c2,c3].drop 3).take (Try.prog.cellsOf 31))=xs[3]? := hf 3 _ rfl
 rw [cells31'] at f3
 have q3:DataW.trod enc Try.prog W base (fun _=>true) held n 31 [c3]=xs[3]? := f3
 have hx4:xs.length=4:=hxl
 obtain ⟨y0,e0⟩ : ∃ y,xs[0]? = some y:=⟨xs[0],List.getElem?_eq_getElem (by omega)⟩
 obtain ⟨y1,e1⟩ : ∃ y,xs[1]? = some y:=⟨xs[1],List.getElem?_eq_getElem (by omega)⟩
 obtain ⟨y2,e2⟩ : ∃ y,xs[2]? = some y:=⟨xs[2],List.getElem?_eq_getElem (by omega)⟩
 obtain ⟨y3,e3⟩ : ∃ y,xs[3]? = some y:=⟨xs[3],List.getElem?_eq_getElem (by omega)⟩
 rw [e0] at q0;rw [e1] at q1;rw [e2] at q2;rw [e3] at q3
 obtain ⟨n0,g0,_⟩:=DataW.trod_bool Try.underlying4 q0
 obtain ⟨n1,g1,_,w1⟩:=DataW.trod_int Try.underlying3 q1
 obtain ⟨n2,g2,_,w2⟩:=DataW.trod_int Try.underlying3 q2
 cases g0;cases g1;cases g2
 obtain ⟨h3,l3,d3⟩:=trod_recs q3
 refine ⟨_,_,_,_,⟨n0,n1,n2,l3⟩,rfl,⟨?_,?_,?_,⟨_,rfl,h3,d3⟩,i64_lit w1,i64_lit w2⟩⟩
 ·rw [clean_flat rfl];rfl
 ·rw [clean_flat rfl];rfl
 ·rw [clean_flat rfl];rfl
theorem LifeV.move {h:ah} {k k':dW} {o:Nat} {l:LifeD} (x:LifeV h k 0 l) (hk : ∀ i,i<4→k'[o+i]? = k[i]?):LifeV h k' o l where
 ca:=(hk 0 (by decide)).trans x.ca
 after:=(hk 1 (by decide)).trans x.after
 aC:=(hk 2 (by decide)).trans x.aC
 aT:=let ⟨v,h1,h2⟩:=x.aT;⟨v,(hk 3 (by decide)).trans h1,h2⟩
 wf:=x.wf
theorem trod_lives {fuel:Nat} {v:Value} {x:DataW H×List MemPlace} (h:DataW.trod enc Try.prog W base (fun _=>true) held fuel 61 [v]=some x) :
  isHole (clean W.heap.size v)=false ∧ ∃ ls,LivesV (fD W (view W)) (clean W.heap.size v) ls:=by
 rcases DataW.trod_slice Try.underlying61 h with ⟨h1,_⟩|⟨a,len,cap,elems,rest,n,_,h1,_,_,hlc,hcm,hl,hel,hsp,_⟩
 ·cases h1
  exact ⟨rfl,[],none,0,0,rfl,rfl,Nat.zero_le _,fun i hi=>absurd hi (Nat.not_lt_zero i)⟩
 ·cases h1
  have hp:0<Try.prog.cellsOf 67:=by rw [cells67];decide
  have hpos:=slice_place hp hlc hl hel (hsp rfl)
  obtain ⟨g1,a',g2,g3,_⟩:=clean_slice (W:=W) hlc hpos
  refine ⟨g1,?_⟩
  have each : ∀ i,i<len → ∃ k l,view W a.block=some k∧LifeV (fD W (view W)) k (a.off+i*4) l:=by
   intro i hi
   have h2:=hel i hi
   have hil:i<elems.length:=by rw [hl];exact hi
   rw [List.getElem?_eq_getElem hil,Option.bind_eq_some_iff,cells67] at h2
   obtain ⟨cs,hc,ht⟩:=h2
   obtain ⟨_,hlen,hcell⟩:=World.cells?_some hc
   obtain ⟨c0,c1,c2,c3,l,rfl,hop⟩:=trod_life ht
   have vc : ∀ (j:Nat) (c:Value),j<4 → [c0,c1,c2,c3][j]? = some c → ∃ k,view W a.block=some k∧k[a.off+i*4+j]? = some (clean W.heap.size c):=by
    intro j c hj hjc
    have g:=hcell j hj
    rw [hjc] at g
    obtain ⟨_,_,k,hk,hc2⟩:=view_cell g
    rw [add_block,add_block] at hk
    rw [add_off,add_off] at hc2
    exact ⟨k,hk,hc2⟩
   obtain ⟨k,hk,_⟩:=vc 0 c0 (by decide) rfl
   refine ⟨k,l,hk,hop.move ?_⟩
   intro j hj
   have hjl:j < [c0,c1,c2,c3].length:=hj
   obtain ⟨k',hk',hc'⟩:=vc j _ hj (List.getElem?_eq_getElem hjl)
   rw [hk] at hk';cases hk'
   rw [hc']
   match j,hj with
   | 0,_=>rfl
   | 1,_=>rfl
   | 2,_=>rfl
   | 3,_=>rfl
  let f:Nat→LifeD:=fun i=>if hi:i<len then (each i hi).choose_spec.choose else ⟨false,0,0,[]⟩
  refine ⟨(List.range len).map f,a',len,cap,g2,by simp,by omega,?_⟩
  intro i hi
  have ha:=g3 (by omega)
  subst ha
  obtain ⟨hk,hop⟩:=(each i hi).choose_spec.choose_spec
  refine ⟨a'.block,a'.off,a'.spot,_,rfl,by rw [view_get];exact hk,f i,by rw [List.getElem?_map,List.getElem?_range hi];rfl,?_⟩
  have:f i=(each i hi).choose_spec.choose:=by simp only [f,hi,dif_pos]
  rw [this];exact hop
end
end Go.Proofs.Ytcmfgmhadeeieaa

namespace Go.Proofs.Ytcmfgmhadeeieaa
open Go Go.Abs
def XB (g:ah) (N:Nat) (v:Value) (l:List Nat):Prop := ∃ a c,v = .slice a l.length c∧av a l.length g=some l∧cQ a l.length c=true ∧ ∀ y,a=some y→0<l.length→N≤y.block
theorem XB.aC {g g':ah} {N:Nat} {v:Value} {l:List Nat} (x:XB g N v l) {B:Nat→Prop} (k:Kept g g' B) (hB : ∀ c,B c→c<N∨dq g c):XB g' N v l:=by
 obtain ⟨a,c,rfl,h1,h2,h3⟩:=x
 refine ⟨a,c,rfl,k.bytes h1 (fun y hy hn hb => ?_),h2,h3⟩
 rcases hB _ hb with h|h
 ·have:=h3 y hy hn;omega
 ·subst hy
  exact not_bytes h h1 hn rfl
theorem XB.bJ {g g':ah} {N:Nat} {v:Value} {l:List Nat} (x:XB g N v l) (k:Old g g'):XB g' N v l:=x.aC k (fun _ h=>h.elim)
theorem dr.X {g:ah} {N:Nat} {v:Value} {l:List Nat} (x:dr g N v l):XB g N v l:=by
 obtain ⟨a,c,e1,e2,e3,e4,_⟩:=x.bytes
 exact ⟨a,c,e1,e2,e3,fun y hy _=>e4 y hy⟩
theorem cP.keepX {h h':ah} {N:Nat} {cells:List Value} {vals:List (List Nat)} (E:cP h N cells vals) {B:Nat→Prop} (k:Kept h h' B) (hB : ∀ c,B c→c<N∨dq h c):cP h' N cells vals:=by
 refine ⟨E.1,fun i e he => ?_⟩
 obtain ⟨a,n,c,h2,h3,h4,h5⟩:=E.2 i e he
 refine ⟨a,n,c,h2,k.bytes h3 (fun y hy hn hb => ?_),h4,h5⟩
 rcases hB _ hb with h|h
 ·have:=h5 y hy hn;omega
 ·subst hy
  exact not_bytes h h3 hn rfl
def iJ (g:ah) (N:Nat) (w:Value) (vals:List (List Nat)):Prop := ∃ cells,cw g N 1 w vals.length cells∧cP g N cells vals
theorem iJ.aC {g g':ah} {N:Nat} {w:Value} {vals:List (List Nat)} (x:iJ g N w vals) {B:Nat→Prop} (k:Kept g g' B) (h1 : ∀ b,cF w=some b → ¬B b) (h2 : ∀ c,B c→c<N∨dq g c):iJ g' N w vals:=by
 obtain ⟨cells,o,E⟩:=x
 exact ⟨cells,o.aC k h1,E.keepX k h2⟩
theorem iJ.bJ {g g':ah} {N:Nat} {w:Value} {vals:List (List Nat)} (x:iJ g N w vals) (k:Old g g'):iJ g' N w vals:=x.aC k (fun _ _ h=>h) (fun _ h=>h.elim)
theorem iJ.S {g:ah} {N:Nat} {w:Value} {vals:List (List Nat)} (x:iJ g N w vals):gy g w vals 1 0:=by
 obtain ⟨cells,o,E⟩:=x
 exact E.S o
theorem iJ.base {g:ah} {N:Nat} {w:Value} {vals:List (List Nat)} (x:iJ g N w vals) {b:Nat} (hb:cF w=some b):N≤b:=by
 obtain ⟨cells,o,E⟩:=x
 exact o.base hb
theorem iJ.low {g:ah} {N M:Nat} {w:Value} {vals:List (List Nat)} (x:iJ g N w vals) (h:M≤N):iJ g M w vals:=by
 obtain ⟨cells,o,E⟩:=x
 refine ⟨cells,⟨o.1,o.2.1,o.2.2.1,?_⟩,E.low h⟩
 rcases o.2.2.2 with e|⟨b,s,e1,e2,e3⟩
 ·exact .inl e
 ·exact .inr ⟨b,s,e1,Nat.le_trans h e2,e3⟩
theorem iJ.V {g:ah} {N:Nat} {w:Value} {vals:List (List Nat)} (x:iJ g N w vals) (hl:vals.length≤100000) (h21 : ∀ r∈vals,r.length≤100000):fx g w vals:=by
 obtain ⟨cells,o,E⟩:=x
 have h6 : ∀ i,i<vals.length → ∃ rv,cells[i]? = some rv∧isHole rv=false∧BytesV g rv (vals.getD i []):=by
  intro i hi
  obtain ⟨a,n,c,h2,h3,h4,h5⟩:=E.2 i _ (List.getElem?_eq_getElem hi)
  have hn:=(aw h3).1
  have:=h21 _ (List.getElem_mem hi)
  have hm:100000≤maxLen:=by unfold maxLen;omega
  exact ⟨_,h2,rfl,a,n,c,rfl,by rw [List.getD_eq_getElem?_getD,List.getElem?_eq_getElem hi];exact h3,by omega,.inl h4⟩
 have hm:100000≤maxLen:=by unfold maxLen;omega
 obtain ⟨_,_,_,⟨rfl,h4⟩|⟨b,s,rfl,h5,⟨rfl,h4⟩|⟨rfl,h7⟩⟩⟩:=o
 ·exact ⟨none,0,0,rfl,h4,Nat.zero_le _,fun i hi=>by omega⟩
 ·exact ⟨_,_,_,rfl,rfl,by omega,fun i hi=>by omega⟩
 ·refine ⟨_,_,_,rfl,rfl,by omega,fun i hi => ?_⟩
  obtain ⟨rv,q1,q2,q3⟩:=h6 i hi
  exact ⟨b,0,_,cells,rv,rfl,h7,by rw [Nat.zero_add];exact q1,q2,q3⟩
theorem copyB {g:ah} {r:List Nat} {a:Option Addr} {n c:Nat} (hs:av a n g=some r) (hr:n≤100000) :
  ∃ v1 g1,bo 1 1 (.slice (some ⟨g.next,0,none⟩) 0 0) (.slice a n c) (g.alloc [])=some (v1,g1)∧dr g1 g.next v1 r∧Old g g1:=by
 have oA:Old g (g.alloc []):=Kept.alloc _ _ _
 have nA:(g.alloc []).next=g.next+1:=ah.aS ..
 have own0:dr (g.alloc []) g.next (.slice (some ⟨g.next,0,none⟩) 0 0) []:=⟨cw.empty _ (Nat.le_refl _),by simp⟩
 obtain ⟨v1,g1,e1,b1,k1,_⟩:=dI own0 (by rw [oA.n0];exact g.aH) (by omega) (Old.bytes oA hs) (c:=c) (by simp only [List.length_nil];omega)
 rw [List.nil_append] at b1
 exact ⟨v1,g1,e1,b1,oA.bS k1 (fun c hc hb=>by
  have:cF (.slice (some ⟨g.next,0,none⟩) 0 0)=some g.next:=rfl
  rw [this] at hb
  cases hb
  omega)⟩
theorem iJ.snoc {g:ah} {N:Nat} {w v1:Value} {vals:List (List Nat)} {r:List Nat} (x:iJ g N w vals) (hb:XB g N v1 r) (h0:g.n0≤N) (hN:N≤g.next) (hd:vals.length≤100000) :
  ∃ b2 g2 v3 g3,cX 1 (.slice none 0 0) 1 [(0,v1)] g=some (.slice (some ⟨b2,0,none⟩) 1 1,g2)∧bo 1 24 w (.slice (some ⟨b2,0,none⟩) 1 1) g2=some (v3,g3)∧iJ g3 N v3 (vals ++ [r]) ∧
    Kept g g3 (fun c=>cF w=some c∧dq g c)∧(cF v3=cF w ∨ ∃ b,cF v3=some b∧g.next≤b):=by
 obtain ⟨cells,own,E⟩:=x
 obtain ⟨a1,c1,rfl,s1,t1,u1⟩:=hb
 have hlit:cX 1 (.slice none 0 0) 1 [(0,.slice a1 r.length c1)] g=some (.slice (some ⟨g.next,0,none⟩) 1 1,g.alloc [.slice a1 r.length c1]):=rfl
 have oB:Old g (g.alloc [.slice a1 r.length c1]):=Kept.alloc _ _ _
 have gB:(g.alloc [.slice a1 r.length c1]).get g.next=some [.slice a1 r.length c1]:=by rw [ah.aE,if_pos rfl]
 have ownB:=own.aC oB (fun _ _ h=>h)
 have EB:=E.aC oB (fun _ h=>h.elim)
 have sB:=Old.bytes oB s1
 have nB:(g.alloc [.slice a1 r.length c1]).next=g.next+1:=ah.aS ..
 generalize g.alloc [.slice a1 r.length c1]=gB1 at *
 have hfB:bW 1 1 (.slice (some ⟨g.next,0,none⟩) 1 1) gB1=some [.slice a1 r.length c1]:=by
  simp only [bW,gB]
  rfl
 obtain ⟨v3,g3,f1,f2,f3,f4⟩:=im (by_:=24) (x := .slice (some ⟨g.next,0,none⟩) 1 1) (m:=1) ownB (by rw [oB.n0];exact h0) (by omega) (by decide) rfl hfB rfl rfl rfl (by omega) (by omega)
 have pl : ∀ b,cF w=some b∧gB1.get b=some cells→dq gB1 b:=fun b hb=>⟨cells,hb.2,EB.plain⟩
 refine ⟨g.next,gB1,v3,g3,hlit,f1,⟨cells ++ [.slice a1 r.length c1],by rw [List.length_append];exact f2,(EB.aC f3 pl).append (cP.one (f3.ea pl sB) t1 u1)⟩,?_,?_⟩
 ·have k1:Kept g gB1 (fun c=>cF w=some c∧dq g c):=Kept.mono oB (fun _ _ h=>h.elim)
  refine k1.bS f3 (fun c hc hb=>⟨hb.1,cells,?_,EB.plain⟩)
  rw [←Kept.get oB c hc (fun h=>h)]
  exact hb.2
 ·rcases f4 with rfl|f4
  ·exact .inl rfl
  ·exact .inr ⟨_,f4,by omega⟩
structure OutS (h0 g:ah) (n N d f bb:Nat) (D:Dk) (w:Value) (content:List (List Nat)) (ev:Value) (extra:List Nat) (cut:Bool) (gen k:Nat) (aT:List (List Nat)):Prop where
 dk:bf g d D
 hn:D.n=n∧D.bb=bb
 pf:Pl6 g f
 own:iJ g N w content
 ex:XB g N ev extra
 bJ:Old h0 g
 lo:h0.next≤bb∧bb<d∧d<f∧f<N∧N≤g.next
 lv:Lv D k aT gen
 rel:aT=content∨(cut=true∧aT=content ++ [extra])
structure InS (h0 g:ah) (n N d f bb j f2 p2:Nat) (D U:Dk) (S:Rf) (v:Value) (J J':Jn) (w:Value) (content:List (List Nat)) (ev:Value) (extra:List Nat):Prop where
 dk:bf g d D
 hn:D.n=n∧D.bb=bb∧U.n=n
 four:4≤n∧n≤64
 xj:cU g j d J
 jok:iD J D
 jok':iD J' U
 dok:Dok U
 box:Box6 g f2 v
 p6:Pl6 g f2
 xr:cM g (fun c=>c=d∨c=bb) v S
 eq:Eqd U S
 gp:g.get p2=some J'.rc
 pf:Pl6 g f
 own:iJ g N w content
 ap : ∀ c,cF w=some c→c≠j∧c≠f2∧c≠p2
 ex:XB g N ev extra
 bJ:Old h0 g
 lo:h0.next≤bb∧bb<d∧d<f∧f<N∧N≤j∧j<f2∧f2<p2
theorem InS.aC {h0 g g':ah} {n N d f bb j f2 p2:Nat} {D U:Dk} {S:Rf} {v:Value} {J J':Jn} {w:Value} {content:List (List Nat)} {ev:Value} {extra:List Nat} (x:InS h0 g n N d f bb j f2 p2 D U S v J J' w content ev extra) (o:Old g g'):InS h0 g' n N d f bb j f2 p2 D U S v J J' w content ev extra:=
 ⟨Old.dk o x.dk,x.hn,x.four,x.xj.aC o (fun h=>h),x.jok,x.jok',x.dok,x.box.aC o (fun h=>h),x.p6.aC o (fun h=>h),x.xr.bJ o,x.eq,Old.get o x.gp,x.pf.aC o (fun h=>h),x.own.bJ o,x.ap,x.ex.bJ o,x.bJ.trans o,x.lo⟩
theorem InS.upd {h0 g g1 g2:ah} {n N d f bb j f2 p2:Nat} {D U E F:Dk} {S S':Rf} {v v':Value} {J J' Ja Jb:Jn} {w:Value} {content:List (List Nat)} {ev:Value} {extra:List Nat} (x:InS h0 g n N d f bb j f2 p2 D U S v J J' w content ev extra)
  (k:JdOnly j d bb g g1) (xd:bf g1 d E) (hb:E.bb=bb) (hE:E.n=n) (xj:cU g1 j d Ja) (jok:iD Ja E) (o:Old g1 g2) (xr:cM g2 (fun c=>c=d∨c=bb) v' S') (eq:Eqd F S') (dok:Dok F) (hF:F.n=n) (jok':iD Jb F) :
  ∃ g3 g4,cf 6 (ptr f2 0) v' g2=some (undef,g3)∧cf 8 (ptr p2 0) (.agg Jb.rc.toArray) g3=some (undef,g4)∧InS h0 g4 n N d f bb j f2 p2 E F S' v' Ja Jb w content ev extra∧Kept g2 g4 (fun c=>c=f2∨c=p2)∧dq g2 f2∧dq g2 p2:=by
 have lo:=x.lo
 have k12:JdOnly j d bb g g2:=k.bS o (fun _ _ h=>h.elim)
 have hn0:g.n0≤h0.next:=by rw [x.bJ.n0];exact h0.aH
 have n2:=k12.n0
 have p62:=x.p6.aC k12 (by omega)
 obtain ⟨g3,s1,s2,s3,s4,s5,s6⟩:=p62.store xr (by omega)
 have gp2:=k12.dp x.gp (by omega)
 have gp3:=s5.dp gp2 (by omega)
 have n3:=s5.n0
 obtain ⟨r1,r2,r3,r4⟩:=iK (n:=8) gp3 (by omega) rfl (k':=Jb.rc) rfl rfl rfl
 have pl3:dq g3 p2:=⟨_,gp3,gV _⟩
 have pl2:dq g2 p2:=⟨_,gp2,gV _⟩
 have pf2:dq g2 f2:=s6 f2 rfl
 have kk:Kept g2 (g3.set p2 Jb.rc) (fun c=>c=f2∨c=p2):=(s5.mono (fun _ _ e => .inl e)).bS r4 (fun _ _ e => .inr e)
 have pk : ∀ c,(c=f2∨c=p2)→dq g2 c:=fun c e=>by rcases e with e|e<;>subst e<;>assumption
 generalize g3.set p2 Jb.rc=g4 at *
 have dkP:dq g d:=dk_plain x.dk
 have jP:dq g j:=⟨_,x.xj.get,J.plain d⟩
 have ownk:=x.own.aC k12 (fun b hb e=>by have:=x.ap b hb;have:=x.own.base hb;omega) (fun c e=>by
  rcases e with e|e|e
  ·subst e;exact .inr jP
  ·subst e;exact .inr dkP
  ·left;omega)
 have exk:=x.ex.aC k12 (fun c e=>by
  rcases e with e|e|e
  ·subst e;exact .inr jP
  ·subst e;exact .inr dkP
  ·left;omega)
 refine ⟨g3,g4,s1,r1,⟨kk.dk (Old.dk o xd) (by omega) (by omega),⟨hE,hb,hF⟩,x.four,(xj.aC o (fun h=>h)).aC kk (by omega),jok,jok',dok,s2.aC r4 (by omega),s3.aC r4 (by omega),?_,eq,r3,(x.pf.aC k12 (by omega)).aC kk (by omega),
  ownk.aC kk (fun b hb e=>by have:=x.ap b hb;omega) (fun c e => .inr (pk c e)),x.ap,exk.aC kk (fun c e => .inr (pk c e)),(x.bJ.bS k12 (fun c hc e=>by omega)).bS kk (fun c hc e=>by omega),lo⟩,kk,pf2,pl2⟩
 obtain ⟨ai,ci,rfl,y1,y2,y3⟩:=s4
 exact ⟨ai,ci,rfl,r4.ea (fun b e=>by subst e;exact pl3) y1,y2,y3⟩
theorem InS.list {h0 g g':ah} {n N d f bb j f2 p2:Nat} {D U:Dk} {S:Rf} {v:Value} {J J':Jn} {w w':Value} {content c':List (List Nat)} {ev:Value} {extra:List Nat} (x:InS h0 g n N d f bb j f2 p2 D U S v J J' w content ev extra)
  (o:iJ g' N w' c') (k:Kept g g' (fun c=>cF w=some c∧dq g c)) (hb:cF w'=cF w ∨ ∃ b,cF w'=some b∧g.next≤b):InS h0 g' n N d f bb j f2 p2 D U S v J J' w' c' ev extra:=by
 have lo:=x.lo
 have hw : ∀ c,cF w=some c→N≤c:=fun c hc=>x.own.base hc
 have plt:p2<g.next:=g.aR x.gp
 refine ⟨k.dk x.dk (fun e=>by have:=hw _ e.1;omega) (fun e=>by have:=hw _ e.1;have:=x.hn;omega),x.hn,x.four,x.xj.aC k (fun e=>(x.ap _ e.1).1 rfl),x.jok,x.jok',x.dok,x.box.aC k (fun e=>(x.ap _ e.1).2.1 rfl),x.p6.aC k (fun e=>(x.ap _ e.1).2.1 rfl),?_,x.eq,k.dp x.gp (fun e=>(x.ap _ e.1).2.2 rfl),x.pf.aC k (fun e=>by have:=hw _ e.1;omega),o,?_,x.ex.aC k (fun c e => .inr e.2),x.bJ.bS k (fun c hc e=>by have:=hw _ e.1;omega),lo⟩
 ·obtain ⟨ai,ci,rfl,y1,y2,y3⟩:=x.xr
  exact ⟨ai,ci,rfl,k.ea (fun b e=>e.2) y1,y2,y3⟩
 ·intro c hc
  rcases hb with hb|⟨b,hb,hl⟩
  ·exact x.ap c (hb▸hc)
  ·rw [hb] at hc
   cases hc
   omega
theorem InS.rf {h0 g g1:ah} {n N d f bb j f2 p2:Nat} {D U:Dk} {S:Rf} {v:Value} {J J':Jn} {w:Value} {content:List (List Nat)} {ev:Value} {extra:List Nat} (x:InS h0 g n N d f bb j f2 p2 D U S v J J' w content ev extra) (k:JdOnly j d bb g g1):cM g1 (fun c=>c=d∨c=bb) v S:=by
 obtain ⟨ai,ci,rfl,y1,y2,y3⟩:=x.xr
 refine ⟨ai,ci,rfl,k.bytes y1 (fun y hy hn hB => ?_),y2,y3⟩
 subst hy
 rcases hB with hB|hB
 ·exact not_bytes ⟨_,x.xj.get,J.plain d⟩ y1 hn hB
 ·exact y3 _ rfl hn hB
end Go.Proofs.Ytcmfgmhadeeieaa

namespace Go.Proofs.Ytcmfgmhadeeieaa
open Go Go.Abs
theorem wr_dok (ak gen at_ parts:Nat) (r:List Nat) : ∀ (k i:Nat) (D:Dk),Dok D→Dok (Dk.wr ak gen at_ parts r k i D).2∧(Dk.wr ak gen at_ parts r k i D).2.n=D.n
 | 0,_,D,o=>⟨o,rfl⟩
 |k+1,i,D,o=>by
  obtain ⟨o1,o2⟩:=o.write ((2+ak*D.ar+at_+i:Nat):Int) (cS gen (at_+i) i parts (chunk r i))
  unfold Dk.wr
  split
  ·obtain ⟨p1,p2⟩:=wr_dok ak gen at_ parts r k (i+1) _ o1
   exact ⟨p1,p2.trans o2⟩
  ·exact ⟨o1,o2⟩
theorem append_dok {D:Dk} (o:Dok D) (J:Jn) (r:List Nat):Dok (J.append D r).2.1∧(J.append D r).2.1.n=D.n:=by
 have h:=wr_dok J.ak J.gen J.fin (aQ r.length) r (aQ r.length) 0 D o
 unfold Jn.append
 split
 ·exact ⟨o,rfl⟩
 split
 ·exact ⟨o,rfl⟩
 split
 ·exact ⟨o,rfl⟩
 split
 ·exact ⟨o,rfl⟩
 split
 ·exact h
 ·exact h
theorem rwAll_dok (ak gen:Nat) : ∀ (vals:List (List Nat)) (at_:Nat) (D:Dk) (ps:List Nat),Dok D→Dok (Dk.bL ak gen vals at_ D ps).2.1∧(Dk.bL ak gen vals at_ D ps).2.1.n=D.n
 | [],_,D,_,o=>⟨o,rfl⟩
 |r::rs,at_,D,ps,o=>by
  obtain ⟨o1,o2⟩:=wr_dok ak gen at_ (aQ r.length) r (aQ r.length) 0 D o
  unfold Dk.bL
  split
  ·obtain ⟨p1,p2⟩:=rwAll_dok ak gen rs (at_+aQ r.length) (D.bU ak gen at_ r).2 (ps ++ [at_]) o1
   exact ⟨p1,p2.trans o2⟩
  ·exact ⟨o1,o2⟩
theorem rewrite_dok {D:Dk} (o:Dok D) (J:Jn) (vals:List (List Nat)):Dok (J.rewrite D vals).2.1∧(J.rewrite D vals).2.1.n=D.n:=by
 obtain ⟨o1,o2⟩:=rwAll_dok J.az (J.known+1) vals 0 D [] o
 obtain ⟨p1,p2⟩:=o1.write J.a9 (bV (J.known+1) J.az)
 unfold Jn.rewrite
 split
 ·exact ⟨o,rfl⟩
 split
 ·exact ⟨o,rfl⟩
 split
 ·exact ⟨o,rfl⟩
 split
 ·split
  ·exact ⟨p1,p2.trans o2⟩
  ·exact ⟨p1,p2.trans o2⟩
 ·exact ⟨o1,o2⟩
theorem InS.step {h0 g:ah} {n N d f bb j f2 p2:Nat} {D U:Dk} {S:Rf} {v:Value} {J J':Jn} {w:Value} {content:List (List Nat)} {ev:Value} {extra:List Nat} (x:InS h0 g n N d f bb j f2 p2 D U S v J J' w content ev extra)
  {ai:Option Addr} {ni ci:Nat} {r:List Nat} (hs0:av ai ni h0=some r) (hz:goodZ ai ni ci) (hr:ni≤21000) :
  ∃ a25 c25 g1 cp g2 pv g3 v' S' pu g4 g5 g6,CD 25 [ptr d 0] g=some (.slice a25 (128*n) c25,g1)∧cX 1 (.int .u8 0) 0 [] g1=some (.slice (some ⟨g1.next,0,none⟩) 0 0,g1.alloc [])∧bo 1 1 (.slice (some ⟨g1.next,0,none⟩) 0 0) (.slice ai ni ci) (g1.alloc [])=some (cp,g2) ∧
    CD 27 [ptr j 0,cp] g2=some (.tuple #[pv,.int .i64 (J.append D r).1],g3)∧ch 6 (ptr f2 0) g3=some (v,g3)∧ch 8 (ptr p2 0) g3=some (.agg J'.rc.toArray,g3) ∧
    CD 42 [v,.agg J'.rc.toArray,.slice ai ni ci] g3=some (.tuple #[v',.agg (J'.append U r).2.2.rc.toArray,pu,.int .i64 (J'.append U r).1],g4)∧cf 6 (ptr f2 0) v' g4=some (undef,g5)∧cf 8 (ptr p2 0) (.agg (J'.append U r).2.2.rc.toArray) g5=some (undef,g6) ∧
    InS h0 g6 n N d f bb j f2 p2 (J.append D r).2.1 (J'.append U r).2.1 S' v' (J.append D r).2.2 (J'.append U r).2.2 w content ev extra∧av a25 (128*n) g6=some D.aW∧cQ a25 (128*n) c25=true∧g.next≤g6.next:=by
 have lo:=x.lo
 obtain ⟨hn1,hn2,hn3⟩:=x.hn
 have h4:=x.four
 obtain ⟨a25,c25,g1,e25,s25,t25,u25,o1⟩:=r25 x.dk
 rw [hn1] at e25 s25 t25
 have x1:=x.aC o1
 obtain ⟨cp,g2,ecp,bcp,o2⟩:=copyB (c:=ci) (Old.bytes x1.bJ hs0) (by omega)
 have x2:=x1.aC o2
 obtain ⟨acp,ccp,rfl,scp,tcp,ucp,_⟩:=bcp.bytes
 have hrl:=(aw hs0).1
 have blt:=x1.dk.blt
 obtain ⟨pv,g3,e27,xd3,xj3,hb3,hn3',k3,_⟩:=r27 x2.dk x2.xj (by omega) x2.jok scp tcp (by omega) (fun y hy _=>by have:=ucp y hy;omega)
 rw [hn2] at k3 hb3
 have hn3':=hn3'.trans hn1
 have dlt:=x1.dk.lt
 have flt:f2<g1.next:=x1.box.lt
 have plt:p2<g1.next:=g1.aR x1.gp
 have rf3:=x2.rf k3
 have l6:=(x2.box.aC k3 (by omega)).ld
 have gp3:=k3.dp x2.gp (by omega)
 have l8:ch 8 (ptr p2 0) g3=some (.agg J'.rc.toArray,g3):=cZ gp3 rfl (fC J')
 have o3:Old h0 g3:=x2.bJ.bS k3 (fun c hc e=>by omega)
 have nn3:=k3.next
 have nn1:=o1.next
 have nn2:=o2.next
 obtain ⟨v',S',g4,e42,xr4,q4,o4⟩:=r42 (D:=U) (J:=J') rf3 (fun b hb=>by omega) x.eq x.dok x.jok' (Old.bytes o3 hs0) hz (by omega)
 have hd:=append_dok x.dok J' r
 obtain ⟨g5,g6,s5,s6,x6,k6,pf2,pp2⟩:=x2.upd k3 xd3 hb3 hn3' xj3 (append_jok x2.jok (hn3'.trans hn1.symm)) o4 xr4 q4 hd.1 (hd.2.trans hn3) (append_jok x.jok' hd.2)
 have nn4:=o4.next
 have nn6:=k6.next
 have b2:=Old.bytes o2 s25
 have b3:av a25 (128*n) g3=some D.aW:=k3.bytes b2 (fun y hy hn0 hB=>by
  have:=u25 y hy
  have jlt:=x.xj.lt
  have dlt:=x.dk.lt
  have blt:=x.dk.blt
  omega)
 have b6:=k6.ea (fun b hb=>by rcases hb with e|e<;>subst e<;>assumption) (Old.bytes o4 b3)
 exact ⟨a25,c25,g1,_,g2,pv,g3,v',S',_,g4,g5,g6,e25,rfl,ecp,e27,l6,l8,e42,s5,s6,x6,b6,t25,by omega⟩
end Go.Proofs.Ytcmfgmhadeeieaa

namespace Go.Proofs.Ytcmfgmhadeeieaa
open Go Go.Abs
attribute [local congr] ft
structure Rg (v1:Value) (n d f i:Nat) (y:Nat→Value):Prop where
 y0:y 0=aq n
 y1:y 1=v1
 y5:y 5=ptr d 0
 y7:y 7=ptr f 0
 bR:y 13=aq i
def OutI (h0:ah) (v1:Value) (n N d f bb i k:Nat) (y:Nat→Value) (g:ah):Prop:=
 ∃ D w content ev extra cut gen aT,Rg v1 n d f i y∧y 9=w∧y 10=ev∧y 11 = .bool cut∧y 12 = .int .u64 ((gen:Nat):Int)∧OutS h0 g n N d f bb D w content ev extra cut gen k aT
structure InAt (h0:ah) (v1:Value) (n N d f bb j f2 p2 i:Nat) (aT:List (List Nat)) (k:Nat) (y:Nat→Value) (g:ah) (q:Nat) (D U:Dk) (S:Rf) (v:Value) (J J':Jn) (w:Value) (content:List (List Nat)) (ev:Value) (extra:List Nat):Prop where
 hik:q+k=aT.length
 rg:Rg v1 n d f i y
 de:y 23=aq q
 bQ:y 14=ptr j 0
 cG:y 18=ptr f2 0
 cK:y 19=ptr p2 0
 y9:y 9=w
 bM:y 10=ev
 bY:y 11 = .bool false
 bX:y 12 = .int .u64 (J.gen:Int)
 st:InS h0 g n N d f bb j f2 p2 D U S v J J' w content ev extra
 rn:Rn D U J J' content
 gen:J.gen≤i+1
 nx:N≤g.next
def inInv (h0:ah) (v1:Value) (n N d f bb j f2 p2 i:Nat) (aT:List (List Nat)) (k:Nat) (y:Nat→Value) (g:ah):Prop:=
 ∃ q D U S v J J' w content ev extra,InAt h0 v1 n N d f bb j f2 p2 i aT k y g q D U S v J J' w content ev extra
def inFin (h0:ah) (v1:Value) (n N d f bb i:Nat) (ex:Ex) (y:Nat→Value) (g:ah):Prop:=
 (ex = .ret∧y 4 = .bool true)∨(ex = .exit 2∧OutI h0 v1 n N d f bb i (i+1) y g)
theorem Rn.len {D U:Dk} {J J':Jn} {aT:List (List Nat)} (x:Rn D U J J' aT):aT.length≤U.ar:=by
 have:=x.has.fit
 refine Nat.le_trans ?_ this
 clear this x
 induction aT with
 |nil=>exact Nat.zero_le _
 |cons r rs ih=>
  rw [cO,List.length_cons]
  have:=fm r.length
  omega
section
variable {h0:ah} {v1:Value} {lives:List LifeD} (L:LivesV h0 v1 lives) {n N d f bb j f2 p2 i k:Nat} {y:Nat→Value} {g:ah} {q:Nat} {D U:Dk} {S:Rf} {v:Value} {J J':Jn} {w:Value} {content:List (List Nat)} {ev:Value} {extra:List Nat}
 {lf:LifeD} (hi:lives[i]? = some lf) (h21 : ∀ r∈lf.aT,r.length≤21000)
include L hi h21
set_option maxRecDepth 100000 in
set_option maxHeartbeats 4000000 in
theorem in_round (A:InAt h0 v1 n N d f bb j f2 p2 i lf.aT k y g q D U S v J J' w content ev extra):cY 230 (inInv h0 v1 n N d f bb j f2 p2 i lf.aT) (inFin h0 v1 n N d f bb i) k (bC CD y g):=by
 have hil:=(List.getElem?_eq_some_iff.1 hi).1
 obtain ⟨b,o,w4,l',hl',e1,e2,R,_⟩:=L.at hil
 rw [hi] at hl'
 cases hl'
 have ld3 : ∀ z,Old h0 z→ba (ptr b (o+3)) z=some (w4,z):=fun z oz=>(e2 z oz).2
 have hw4:=R.lenL'
 have rg:=A.rg
 have st:=A.st
 have hll:lf.aT.length≤9223372036854775807:=by
  obtain ⟨_,m,_,_,e,hm,_⟩:=R
  rw [e]
  unfold maxLen at hm
  omega
 by_cases hq:q<lf.aT.length
 ·obtain ⟨bp,pp,ai,ni,ci,f1,f2',hs0,hz⟩:=R.atZ (List.getElem?_eq_getElem hq)
  have hrl:=(aw hs0).1
  have hr21:=h21 _ (List.getElem_mem hq)
  have hrb:=(aw hs0).2.1
  obtain ⟨a25,c25,g1,cp,g2,pv,g3,v',S',pu,g4,g5,g6,s1,s2,s3,s4,s5,s6,s7,s8,s9,st6,was6,was7,nx6⟩:=st.step hs0 hz (by omega)
  have lda:=f2' g st.bJ
  have lda1:ba (ptr bp pp) g=some (.slice ai ni ci,g):=lda
  have hx0 : ∀ a b:Value,aD (.tuple #[a,b]) 0=some a:=fun _ _=>rfl
  have hx1 : ∀ a b:Value,aD (.tuple #[a,b]) 1=some b:=fun _ _=>rfl
  have hz0 : ∀ a b c d:Value,aD (.tuple #[a,b,c,d]) 0=some a:=fun _ _ _ _=>rfl
  have hz1 : ∀ a b c d:Value,aD (.tuple #[a,b,c,d]) 1=some b:=fun _ _ _ _=>rfl
  have hz2 : ∀ a b c d:Value,aD (.tuple #[a,b,c,d]) 2=some c:=fun _ _ _ _=>rfl
  have hz3 : ∀ a b c d:Value,aD (.tuple #[a,b,c,d]) 3=some d:=fun _ _ _ _=>rfl
  have heql : ∀ a b:Int,bin Try.prog .eql 28 (.int .i64 a) (.int .i64 b)=some (.bool (a==b)):=fun a b=>eU ..
  have hneq : ∀ a b:Int,bin Try.prog .neq 28 (.int .i64 a) (.int .i64 b)=some (.bool (a != b)):=fun a b=>bin_neq ..
  have har:D.ar≤4096:=by
   have:=st.four
   have:=st.hn.1
   show (D.n-2)/2≤4096
   omega
  have hcl:content.length≤100000:=by
   have:=A.rn.len
   rw [←A.rn.par.ar] at this
   omega
  have lo:=st.lo
  have hn06:g6.n0≤N:=by
   rw [st6.bJ.n0]
   have:=h0.aH
   omega
  have nxN:=A.nx
  rcases A.rn.append (r:=lf.aT[q]) hrb har with ⟨e,he,a1,a2⟩|⟨F,j',a2,⟨E,jn,a1,rn',hg,_⟩|⟨T,a1,hT⟩⟩
  ·
   rw [a1] at s4 st6
   rw [a2] at s7 s9 st6
   have hc1:(e==(0:Int))=false:=by rcases he with rfl|rfl<;>rfl
   have hc2:(e==(9:Int))=false:=by rcases he with rfl|rfl<;>rfl
   unfold bC
   simp (maxSteps:=3000000) -implicitDefEqProofs only [A.de,rg.y1,rg.bR,e1,ax,Nat.zero_add,Nat.add_zero,ld3 g st.bJ,hw4,fT,decide_eq_true hq,f1,lda1,rg.y5,s1,A.bQ,s2,s3,s4,A.cG,A.cK,s5,s6,s7,hz0,hz1,hz2,hz3,s8,s9,af,aj,hx0,hx1,heql,hneq,hc1,hc2,ay]
   have hlast:cY 230 (inInv h0 v1 n N d f bb j f2 p2 i lf.aT) (inFin h0 v1 n N d f bb i) k (some (.normal,aY 230 y,g6))→True:=fun _=>trivial
   rcases he with rfl|rfl
   ·simp (maxSteps:=3000000) -implicitDefEqProofs only [show ((3:Int) != 3)=false from rfl,fs,aF,af,aj,ef (show q+1≤9223372036854775807 by omega),ay,Bool.false_eq_true,if_false]
    exact cY.next (k-1) (by have:=A.hik;omega) ⟨q+1,D,U,S',v',J,J',w,content,ev,extra,by have:=A.hik;omega,⟨rg.y0,rg.y1,rg.y5,rg.y7,rg.bR⟩,rfl,A.bQ,A.cG,A.cK,A.y9,A.bM,A.bY,A.bX,st6,A.rn,A.gen,by omega⟩
   ·simp (maxSteps:=3000000) -implicitDefEqProofs only [show ((8:Int) != 3)=true from rfl,show ((8:Int) != 8)=false from rfl,beq_self_eq_true,aA,af,aj,ef (show q+1≤9223372036854775807 by omega),ay,Bool.false_eq_true,if_false,if_true]
    exact cY.next (k-1) (by have:=A.hik;omega) ⟨q+1,D,U,S',v',J,J',w,content,ev,extra,by have:=A.hik;omega,⟨rg.y0,rg.y1,rg.y5,rg.y7,rg.bR⟩,rfl,A.bQ,A.cG,A.cK,A.y9,A.bM,A.bY,A.bX,st6,A.rn,A.gen,by omega⟩
  ·
   rw [a1] at s4 st6
   rw [a2] at s7 s9 st6
   obtain ⟨c1,g7,u1,u2,u3⟩:=copyB (c:=ci) (Old.bytes st6.bJ hs0) (by omega)
   have st7:=st6.aC u3
   have n7:=u3.next
   obtain ⟨b2,g8,v3,g9,w1,w2,w3,w4',w5⟩:=st7.own.snoc (dr.X (u2.le (N:=N) (by omega))) (by rw [u3.n0];exact hn06) (by omega) hcl
   have st9:=st7.list w3 w4' w5
   have n9:=w4'.next
   have hbs:cX 1 (.int .u8 0) 0 [] g6=some (.slice (some ⟨g6.next,0,none⟩) 0 0,g6.alloc []):=rfl
   unfold bC
   simp (maxSteps:=3000000) -implicitDefEqProofs only [A.de,rg.y1,rg.bR,e1,ax,Nat.zero_add,Nat.add_zero,ld3 g st.bJ,hw4,fT,decide_eq_true hq,f1,lda1,rg.y5,s1,A.bQ,s2,s3,s4,A.cG,A.cK,s5,s6,s7,hz0,hz1,hz2,hz3,s8,s9,af,aj,hx0,hx1,heql,beq_self_eq_true,A.y9,hbs,u1,w1,w2,ef (show q+1≤9223372036854775807 by omega)]
   exact cY.next (k-1) (by have:=A.hik;omega) ⟨q+1,E,F,S',v',jn,j',v3,content ++ [lf.aT[q]],ev,extra,by have:=A.hik;omega,⟨rg.y0,rg.y1,rg.y5,rg.y7,rg.bR⟩,rfl,A.bQ,A.cG,A.cK,rfl,A.bM,A.bY,by rw [hg];exact A.bX,st9,rn',by rw [hg];exact A.gen,by omega⟩
  ·
   rw [a1] at s4 st6
   rw [a2] at s7 s9 st6
   obtain ⟨ais,cis,hvs,y1s,y2s,_⟩:=st6.xr
   obtain ⟨ks,gks,hks,_,_⟩:=st6.box
   have hkk:ks=S'.cells (.slice ais S'.aW.length cis):=by
    have:=hvs.symm.trans hks
    injection this with h1
    have:=congrArg Array.toList h1
    simpa using this.symm
   subst hkk
   have lis:ba (ptr f2 0) g6=some (.slice ais S'.aW.length cis,g6):=aN gks rfl rfl
   obtain ⟨a7,c7,g7,e25,s25,t25,_,o7⟩:=r25 st6.dk
   rw [st6.hn.1] at e25 s25 t25
   have st7:=st6.aC o7
   have lis7:ba (ptr f2 0) g7=some (.slice ais S'.aW.length cis,g7):=aN (Old.get o7 gks) rfl rfl
   have hSl:S'.aW.length=128*n:=by
    rw [st6.eq.aW,st6.dok.aW,st6.hn.2.2]
   rw [hSl] at lis lis7 y1s y2s
   have hSi:=st6.eq.aW
   rw [hSi] at y1s
   have e41:=r41 (c0:=c25) (c1:=cis) (c2:=c7) was7 y2s t25 (Old.bytes o7 was6) (Old.bytes o7 y1s) s25 (by have:=st.four;omega)
   have ck:cE true (some (.slice ais (128*n) cis,g7)) (.slice ais (128*n) cis)=true:=dJ rfl (by simp [veq])
   have hbs:cX 1 (.int .u8 0) 0 [] g7=some (.slice (some ⟨g7.next,0,none⟩) 0 0,g7.alloc []):=rfl
   obtain ⟨c1,g8,u1,u2,u3⟩:=copyB (c:=ci) (Old.bytes st7.bJ hs0) (by omega)
   have st8:=st7.aC u3
   have n7:=o7.next
   have n8:=u3.next
   unfold bC
   simp (maxSteps:=3000000) -implicitDefEqProofs only [A.de,rg.y1,rg.bR,e1,ax,Nat.zero_add,Nat.add_zero,ld3 g st.bJ,hw4,fT,decide_eq_true hq,f1,lda1,rg.y5,s1,A.bQ,s2,s3,s4,A.cG,A.cK,s5,s6,s7,hz0,hz1,hz2,hz3,s8,s9,af,aj,hx0,hx1,heql,show ((9:Int)==0)=false from rfl,beq_self_eq_true,lis,e25,e41,lis7,ck,Bool.and_true]
   cases hfg:fgB n D.aW F.aW T.aW with
   |true=>
    simp (maxSteps:=3000000) -implicitDefEqProofs only [r14,af]
    exact cY.ret (.inl ⟨rfl,rfl⟩)
   |false=>
    simp (maxSteps:=3000000) -implicitDefEqProofs only [hbs,u1,af]
    have hDn:D.n=n:=st.hn.1
    obtain ⟨recs',hr',lv⟩:=hT (fgB_nf (by rw [hDn];exact hfg))
    have lo8:=st8.lo
    exact cY.out 2 (.inr ⟨rfl,T,w,content,c1,lf.aT[q],true,J.gen,recs',⟨rg.y0,rg.y1,rg.y5,rg.y7,rg.bR⟩,A.y9,rfl,rfl,A.bX,⟨st8.dk,⟨st8.hn.1,st8.hn.2.1⟩,st8.pf,st8.own,dr.X (u2.le (N:=N) (by omega)),st8.bJ,by omega,lv.mono A.gen,hr'.imp id (fun h=>⟨rfl,h⟩)⟩⟩)
 ·unfold bC
  simp (maxSteps:=3000000) -implicitDefEqProofs only [A.de,rg.y1,rg.bR,e1,ax,Nat.zero_add,Nat.add_zero,ld3 g st.bJ,hw4,fT,decide_eq_false hq,af,aj]
  have lo:=st.lo
  have nx:=A.nx
  exact cY.out 2 (.inr ⟨rfl,D,w,content,ev,extra,false,J.gen,content,⟨rg.y0,rg.y1,rg.y5,rg.y7,rg.bR⟩,A.y9,A.bM,A.bY,A.bX,⟨st.dk,⟨st.hn.1,st.hn.2.1⟩,st.pf,st.own,st.ex,st.bJ,by omega,A.rn.lv.mono A.gen,.inl rfl⟩⟩)
end
end Go.Proofs.Ytcmfgmhadeeieaa

namespace Go.Proofs.Ytcmfgmhadeeieaa
open Go Go.Abs
attribute [local congr] ft
section
variable {h0:ah} {v1:Value} {ops:List OpD} (O:iC h0 v1 ops) (h100:ops.length≤100) {d f p q k:Nat} {y:Nat→Value} {g:ah} {i:Nat} {D:Dk} {S:Rf} {v:Value} {j1 j2:Option (Nat×Jn)} (A:ScAt h0 v1 ops d f p q k y g i D S v j1 j2) {ob oo:Nat} {da ra:Option Addr} {dn dc rn rc:Nat} {op:OpD} (hi:i<ops.length)
 (e2:cd 6 v1 (aq i)=some (ptr ob oo)) (e3 : ∀ h',Old h0 h'→ch 6 (ptr ob oo) h'=some (.agg (opC op da dn dc ra rn rc).toArray,h'))
include O h100 A hi e2 e3
end
end Go.Proofs.Ytcmfgmhadeeieaa

