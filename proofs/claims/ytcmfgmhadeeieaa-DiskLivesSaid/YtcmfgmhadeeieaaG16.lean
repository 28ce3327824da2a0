/-
  A part of the proof, spaces and names shortened by a program (a claim may hold 1,500,000 bytes).
  Conditions: as each theorem states.
-/
import Derived.Test.YtcmfgmhadeeieaaG15
namespace Go.Proofs.Ytcmfgmhadeeieaa
open Go Go.Abs
theorem OutS.aC {h0 g g':ah} {n N d f bb:Nat} {D:Dk} {w:Value} {content:List (List Nat)} {ev:Value} {extra:List Nat} {cut:Bool} {gen k:Nat} {aT:List (List Nat)} (x:OutS h0 g n N d f bb D w content ev extra cut gen k aT) (o:Old g g'):OutS h0 g' n N d f bb D w content ev extra cut gen k aT:=
 ⟨Old.dk o x.dk,x.hn,x.pf.aC o (fun h=>h),x.own.bJ o,x.ex.bJ o,x.bJ.trans o,by have:=o.next;have:=x.lo;omega,x.lv,x.rel⟩
structure MidS (h0 g:ah) (n N d f bb j:Nat) (D0:Dk) (w:Value) (aT:List (List Nat)) (ev:Value) (extra:List Nat) (gen k:Nat):Prop where
 dk:bf g d D0.opened
 hn:D0.n=n∧D0.bb=bb
 down:D0.down=false
 xj:cU g j d D0.jn
 pf:Pl6 g f
 own:iJ g N w aT
 ap : ∀ c,cF w=some c→c≠j
 bl : ∀ c,cF w=some c→c<g.next
 ex:XB g N ev extra
 bJ:Old h0 g
 lo:h0.next≤bb∧bb<d∧d<f∧f<N∧N≤j∧j<g.next
 lv:Lv D0 k aT gen
theorem MidS.aC {h0 g g':ah} {n N d f bb j:Nat} {D0:Dk} {w:Value} {aT:List (List Nat)} {ev:Value} {extra:List Nat} {gen k:Nat} (x:MidS h0 g n N d f bb j D0 w aT ev extra gen k) (o:Old g g'):MidS h0 g' n N d f bb j D0 w aT ev extra gen k:=
 ⟨Old.dk o x.dk,x.hn,x.down,x.xj.aC o (fun h=>h),x.pf.aC o (fun h=>h),x.own.bJ o,x.ap,fun c hc=>by have:=o.next;have:=x.bl c hc;omega,x.ex.bJ o,x.bJ.trans o,by have:=o.next;have:=x.lo;omega,x.lv⟩
theorem r30_nil {h:ah} {v:Value} (R:gy h v [] 2 1):CD 30 [v] h=some (.slice (some ⟨h.next,0,none⟩) 0 0,h.alloc []):=by
 refine aO is30 rfl ((t30_eq _ _ _).trans ?_)
 unfold t30
 have hbs:cX 1 (.slice none 0 0) 0 [] h=some (.slice (some ⟨h.next,0,none⟩) 0 0,h.alloc []):=rfl
 have hll:=R.len
 simp -implicitDefEqProofs only [hbs,af]
 refine cn (Q:=fun o:Out=>o=some (.slice (some ⟨h.next,0,none⟩) 0 0,h.alloc [])) (cg (t30l30_11010_eq CD) (Inv:=fun _ y g=>y 0=v∧y 4=aq 0∧y 3 = .slice (some ⟨h.next,0,none⟩) 0 0∧g=h.alloc [])
  (fin:=fun ex y g=>ex = .exit 0∧y 3 = .slice (some ⟨h.next,0,none⟩) 0 0∧g=h.alloc []) ?_ 0 (by have:rounds=18446744073709551616:=rfl;omega) ⟨rfl,rfl,rfl,rfl⟩) ?_
 ·rintro k y g ⟨y0,y4,y3,rfl⟩
  unfold iI
  simp -implicitDefEqProofs only [y4,y0,af,hll,aj,fT,decide_eq_false (show ¬0<([]:List (List Nat)).length from Nat.not_lt_zero 0)]
  exact cY.out 0 ⟨rfl,y3,rfl⟩
 ·rintro ex z g ⟨rfl,z3,rfl⟩
  simp -implicitDefEqProofs only [bA,b30_4,if_true,t30k30_2_eq]
  unfold t30k30_2
  simp -implicitDefEqProofs only [af,z3]
theorem len_tot (aT:List (List Nat)):aT.length≤aG aT:=by
 induction aT with
 |nil=>exact Nat.zero_le _
 |cons r rs ih=>
  rw [cO,List.length_cons]
  have:=fm r.length
  omega
theorem Lv.lens {D:Dk} {k:Nat} {aT:List (List Nat)} {gen:Nat} (x:Lv D k aT gen) (hn:D.n≤4096):aT.length≤4096 ∧ ∀ r∈aT,r.length≤20000:=by
 rcases x.st with ⟨_,_,rfl,_⟩|⟨slot,ak,g,a,b,c⟩
 ·exact ⟨Nat.zero_le _,fun r hr=>by cases hr⟩
 ·have h1:=len_tot aT
  have h2:=b.fit
  have h3:D.ar=(D.n-2)/2:=rfl
  exact ⟨by omega,fun r hr=>(b.ok r hr).1⟩
section
variable {h0 g:ah} {n N d f bb:Nat} {D:Dk} {w:Value} {content:List (List Nat)} {ev:Value} {extra:List Nat} {cut:Bool} {gen k:Nat} {aT:List (List Nat)} (x:OutS h0 g n N d f bb D w content ev extra cut gen k aT) (hn:4≤n∧n≤64)
include x hn
theorem OutS.open_ : ∃ j w1 g1 g2 w2 g3,CD 33 [ptr d 0] g=some (.tuple #[],g1)∧CD 21 [ptr d 0] g1=some (.tuple #[ptr j 0,w1,.int .i64 0],g2)∧CD 36 [ptr d 0] g2=some (.bool false,g2)∧CD 30 [w1] g2=some (w2,g3) ∧
  CD 29 [w2,w] g3=some (.bool (decide (aT=content)),g3)∧MidS h0 g3 n N d f bb j D.on w2 aT ev extra gen k∧iJ g3 N w content:=by
 obtain ⟨hn1,hn2⟩:=x.hn
 have lo:=x.lo
 obtain ⟨e33,x1,k1⟩:=r33 x.dk
 have lv1:Lv D.on k aT gen:=x.lv.cong rfl rfl
 have hn1':D.on.n=n:=hn1
 have hbb':D.on.bb=bb:=hn2
 have hdown:D.on.down=false:=rfl
 rw [hn2] at k1
 generalize dh g d D.on=g1 at *
 have n1:=k1.next
 obtain ⟨hl1,hl2⟩:=lv1.lens (by omega)
 have har:D.on.ar=(D.on.n-2)/2:=rfl
 have hent:=lv1.entries (by omega)
 obtain ⟨j,w1,cells,M,g2,e21,x2,xj,ow,E,k2,l1,l2,l3⟩:=r21 x1 (by omega) hdown
 have S:=E.S ow
 rw [hent] at S
 obtain ⟨w2,cl2,g3,e30,ow3,E3,o3,hbl⟩ : ∃ v' cells h',CD 30 [w1] g2=some (v',h')∧cw h' g2.next 1 v' aT.length cells∧cP h' g2.next cells aT∧Old g2 h' ∧ ∀ c,cF v'=some c→c<h'.next:=by
  by_cases hr:aT = []
  ·subst hr
   exact ⟨_,[],_,r30_nil S,cw.empty _ (Nat.le_refl _),cP.nil _ _,Kept.alloc _ _ _,fun c hc=>by cases hc;show g2.next<_;rw [ah.aS];omega⟩
  ·obtain ⟨v',cells,h',a1,a2,a3,a4⟩:=r30 S (by omega) (fun r hr=>by have:=hl2 r hr;omega)
   refine ⟨v',cells,h',a1,a2,a3,a4,fun c hc => ?_⟩
   obtain ⟨_,_,_,⟨rfl,_⟩|⟨b,s,rfl,h5,⟨_,h6⟩|⟨_,h7⟩⟩⟩:=a2
   ·cases hc
   ·exact absurd (List.length_eq_zero_iff.1 h6) hr
   ·cases hc
    exact h'.aR h7
 have n2:=k2.next
 have n3:=o3.next
 have e36:CD 36 [ptr d 0] g2=some (.bool false,g2):=eO (by
  rw [show XX 36=s36 from rfl,s36_at x2];rfl)
 have own2:iJ g3 N w2 aT:=iJ.low ⟨cl2,ow3,E3⟩ (by omega)
 have k13:Kept g g3 (fun c=>c=d∨c=bb):=(k1.bS k2 (fun _ _ e => .inl e)).bS o3 (fun _ _ h=>h.elim)
 have pl : ∀ c,(c=d∨c=bb)→c<N∨dq g c:=fun c e=>by left;omega
 have ownc:=x.own.aC k13 (fun b hb e=>by have:=x.own.base hb;omega) pl
 have e29:=r29 own2.S ownc.S (by omega)
 exact ⟨j,w1,g1,g2,w2,g3,e33,e21,e36,e30,e29,⟨Old.dk o3 x2,⟨hn1',hbb'⟩,rfl,xj.aC o3 (fun h=>h),x.pf.aC k13 (by omega),own2,fun c hc=>by have:=ow3.base hc;omega,hbl,x.ex.aC k13 pl,x.bJ.bS k13 (fun c hc e=>by omega),by omega,lv1⟩,ownc⟩
end
section
variable {h0 g:ah} {n N d f bb j:Nat} {D0:Dk} {w:Value} {aT:List (List Nat)} {ev:Value} {extra:List Nat} {gen k:Nat} (x:MidS h0 g n N d f bb j D0 w aT ev extra gen k) (hn:4≤n∧n≤64)
include x hn
theorem MidS.twice {v:Value} {content:List (List Nat)} (oc:iJ g N v content) (hr:aT=content ++ [extra]) :
  ∃ v1 g1 b2 g2 v3 g3,CD 24 [v] g=some (v1,g1)∧cX 1 (.slice none 0 0) 1 [(0,ev)] g1=some (.slice (some ⟨b2,0,none⟩) 1 1,g2)∧bo 1 24 v1 (.slice (some ⟨b2,0,none⟩) 1 1) g2=some (v3,g3)∧CD 29 [w,v3] g3=some (.bool true,g3)∧Old g g3:=by
 obtain ⟨hn1,hn2⟩:=x.hn
 have lo:=x.lo
 obtain ⟨hl1,hl2⟩:=x.lv.lens (by omega)
 have hcl:content.length+1=aT.length:=by rw [hr];simp
 obtain ⟨v1,cl,g1,e24,ow,E,o1⟩:=r24 oc.S (by omega) (fun r hx=>by
  have:=hl2 r (by rw [hr];exact List.mem_append_left _ hx)
  omega)
 have n1:=o1.next
 have own1:iJ g1 N v1 content:=iJ.low ⟨cl,ow,E⟩ (by omega)
 have hn0:g1.n0≤N:=by
  rw [o1.n0,x.bJ.n0]
  have:=h0.aH
  omega
 obtain ⟨b2,g2,v3,g3,q1,q2,q3,q4,_⟩:=own1.snoc (x.ex.bJ o1) hn0 (by omega) (by omega)
 have o3:Old g g3:=o1.bS q4 (fun c hc e=>by have:=ow.base e.1;omega)
 have e29:=r29 (x.own.bJ o3).S q3.S (by omega)
 rw [hr,decide_eq_true rfl] at e29
 exact ⟨v1,g1,b2,g2,v3,g3,e24,q1,q2,e29,o3⟩
def u0 (D0:Dk):Dk:={ bb:=0,n:=D0.n,aW:=D0.aW,down:=false,ca:=false,after:=0,aC:=0,aU:=0 }
theorem MidS.load : ∃ a c g1 v1 g2 g3 v2 w3 g4 f2 g5 p2 g6 g7 g8 S,CD 25 [ptr d 0] g=some (.slice a (128*n) c,g1)∧CD 37 [.slice a (128*n) c] g1=some (.tuple #[v1,.int .i64 0],g2)∧cf 6 (ptr f 0) v1 g2=some (undef,g3)∧ch 6 (ptr f 0) g3=some (v1,g3) ∧
  CD 38 [v1] g3=some (.tuple #[v2,.agg (u0 D0).jn.rc.toArray,w3,.int .i64 0],g4)∧dB [(.slice none 0 0),(.bool false),(.bool false),(.int .i64 0),(.int .i64 0),(.int .i64 0)] g4=some (ptr f2 0,g5) ∧
  dB [(.int .i64 0),(.int .i64 0),(.int .u64 0),(.int .i64 0),(.int .u64 0),(.bool false),(.int .i64 0),(.bool false)] g5=some (ptr p2 0,g6)∧cf 6 (ptr f2 0) v2 g6=some (undef,g7)∧cf 8 (ptr p2 0) (.agg (u0 D0).jn.rc.toArray) g7=some (undef,g8) ∧
  InS h0 g8 n N d f bb j f2 p2 D0.opened (u0 D0).opened S v2 D0.jn (u0 D0).jn w aT ev extra∧N≤g8.next:=by
 obtain ⟨hn1,hn2⟩:=x.hn
 have lo:=x.lo
 have hn0:g.n0≤h0.next:=by rw [x.bJ.n0];exact h0.aH
 obtain ⟨a,c,g1,e25,s1,t1,u1,o1⟩:=r25 x.dk
 have hon:D0.opened.n=n:=hn1
 have hoi:D0.opened.aW=D0.aW:=rfl
 rw [hon] at e25 s1 t1
 rw [hoi] at s1
 have himg:D0.aW.length=128*n:=(aw s1).1
 have hbyte : ∀ y∈D0.aW,y<256:=(aw s1).2.1
 obtain ⟨v1,g2,e37,xr2,o2⟩:=r37 (c:=c) s1 (by omega) (by omega) (by omega)
 have x2:=x.aC (o1.trans o2)
 have n1:=o1.next
 have n2:=o2.next
 have n02:g2.n0=g.n0:=by rw [o2.n0,o1.n0]
 have dlt:=x.dk.lt
 have blt:bb<g.next:=by have:=x.dk.blt;have h:D0.opened.bb=bb:=hn2;omega
 have xr2:=xr2.mono (G:=fun c=>c=d∨c=bb) (fun b hb=>by show b<g1.next;omega)
 obtain ⟨g3,s3,b3,p3,xr3,k3,_⟩:=x2.pf.store xr2 (by omega)
 have n3:=k3.next
 have l3:=b3.ld
 have hu:(u0 D0).aW.length=128*(u0 D0).n:=himg.trans (by rw [show (u0 D0).n=n from hn1])
 have hu4:4≤(u0 D0).n:=by show 4≤D0.n;omega
 have hu5:(u0 D0).n≤4096:=by show D0.n≤4096;omega
 obtain ⟨v2,w3,cells,g4,e38,xr4,ow4,E4,o4⟩:=r38 (D:=u0 D0) hu hu4 hu5 xr3 rfl rfl rfl
 have n4:=o4.next
 have hq:Eqd (u0 D0).opened { Rf.of D0.aW with aU:=(u0 D0).opened.aU }:=⟨rfl,rfl,rfl,fun h=>(by cases h),fun h=>(by cases h),rfl,⟨Int.le_refl 0,by show (0:Int)≤128;omega⟩⟩
 generalize hS:({ Rf.of D0.aW with aU:=(u0 D0).opened.aU }:Rf)=S at *
 have o5:Old g4 (g4.alloc cy):=Kept.alloc _ _ _
 have z5:(g4.alloc cy).get g4.next=some cy:=by rw [ah.aE,if_pos rfl]
 have n5:(g4.alloc cy).next=g4.next+1:=ah.aS ..
 have c5:=new6 g4
 generalize g4.alloc cy=g5 at *
 have o6:Old g5 (g5.alloc iT):=Kept.alloc _ _ _
 have z6:(g5.alloc iT).get g5.next=some iT:=by rw [ah.aE,if_pos rfl]
 have n6:(g5.alloc iT).next=g5.next+1:=ah.aS ..
 have c6:=new8 g5
 have z56:=Old.get o6 z5
 generalize g5.alloc iT=g6 at *
 have o46:Old g4 g6:=o5.trans o6
 have n06:g6.n0≤h0.next:=by rw [o46.n0,o4.n0,k3.n0,n02];exact hn0
 obtain ⟨g7,s7,b7,p7,xr7,k7,pl7⟩:=(z6_pl z56).store (xr4.bJ o46) (by omega)
 have z67:=k7.dp z6 (by omega)
 have n7:=k7.next
 have n07:=k7.n0
 obtain ⟨r1,_,r3,r4⟩:=iK (n:=8) z67 (by omega) rfl (k':=(u0 D0).jn.rc) rfl rfl rfl
 have n8:=r4.next
 have hk26:Kept g2 g6 (fun c=>c=f):=(k3.bS o4 (fun _ _ h=>h.elim)).bS o46 (fun _ _ h=>h.elim)
 have k28:Kept g2 (g7.set g5.next (u0 D0).jn.rc) (fun c=>c=f):=(hk26.bS k7 (fun c hc e=>by omega)).bS r4 (fun c hc e=>by omega)
 have pl6':dq g7 g5.next:=⟨_,z67,zero8_plain⟩
 have plf : ∀ c,c=f→c<N∨dq g2 c:=fun c e=>by left;omega
 have jlt:=x2.xj.lt
 have blt2:=x2.dk.blt
 have hob:D0.opened.bb=bb:=hn2
 have dlt2:=x2.dk.lt
 have okd:iD D0.jn D0.opened:=openJ_jok (D:=D0.opened) x.dk.byte _
 have oku:iD (u0 D0).jn (u0 D0).opened:=openJ_jok (D:=(u0 D0).opened) hbyte _
 have dok:Dok (u0 D0).opened:=⟨hu,hu4,hu5,by show (0:Int)≤0∧(0:Int)≤9223372036854775807;omega⟩
 have xr8:cM (g7.set g5.next (u0 D0).jn.rc) (fun c=>c=d∨c=bb) v2 S:=by
  obtain ⟨ai,ci,rfl,y1,y2,y3⟩:=xr7
  exact ⟨ai,ci,rfl,r4.ea (fun b e=>by subst e;exact pl6') y1,y2,y3⟩
 have own8:=x2.own.aC k28 (fun b hb e=>by have:=x2.own.base hb;omega) plf
 have hwlt : ∀ c,cF w=some c→c≠g4.next∧c≠g5.next:=fun c hc=>by
  have:=x.bl c hc
  omega
 exact ⟨a,c,g1,v1,g2,g3,v2,w3,g4,g4.next,g5,g5.next,g6,g7,_,S,e25,e37,s3,l3,e38,c5,c6,s7,r1,
  ⟨k28.dk x2.dk (by omega) (by omega),⟨hon,hob,hn1⟩,hn,x2.xj.aC k28 (by omega),okd,oku,dok,b7.aC r4 (by omega),p7.aC r4 (by omega),xr8,hq,r3,(p3.aC (o4.trans o46) (fun h=>h)).aC (((k7.mono (fun _ _ e => .inl e)).bS r4 (fun _ _ e => .inr e)):Kept g6 _ (fun c=>c=g4.next∨c=g5.next)) (by omega),own8,
   fun c hc=>⟨x.ap c hc,hwlt c hc⟩,x2.ex.aC k28 plf,x2.bJ.bS k28 (fun c hc e=>by omega),by omega⟩,by omega⟩
end
section
variable {h0 g:ah} {n N d f bb j f2 p2:Nat} {D U:Dk} {S:Rf} {v:Value} {J J':Jn} {w:Value} {content:List (List Nat)} {ev:Value} {extra:List Nat} (x:InS h0 g n N d f bb j f2 p2 D U S v J J' w content ev extra)
include x
theorem InS.arm (hd:D.down=false) {l:LifeD} {wl:Value} (hw:wl.oneCell'=true∧wl.cells = #[wl]) (hA:eS l.after=true) : ∃ g1 E,CD 39 [ptr d 0,.agg (lfC l wl).toArray] g=some (.tuple #[],g1)∧E.aW=D.aW∧E.n=D.n∧E.down=false∧E.aU=D.aU ∧
  InS h0 g1 n N d f bb j f2 p2 E U S v J J' w content ev extra∧g.next≤g1.next:=by
 obtain ⟨hn1,hn2,hn3⟩:=x.hn
 have lo:=x.lo
 obtain ⟨g1,E,e39,x1,i1,i2,i3,i4,i5,k⟩:=r39 x.dk hd hw hA
 rw [hn2] at k
 have pl : ∀ c,(c=d∨c=bb)→c<N∨dq g c:=fun c e=>by left;omega
 refine ⟨g1,E,e39,i1,i2,i3,i4,⟨x1,⟨i2.trans hn1,i5.trans hn2,hn3⟩,x.four,x.xj.aC k (by omega),x.jok.of_n i2,x.jok',x.dok,x.box.aC k (by omega),x.p6.aC k (by omega),x.rf k.jd,x.eq,k.dp x.gp (by omega),x.pf.aC k (by omega),
  x.own.aC k (fun b hb e=>by have:=x.own.base hb;omega) pl,x.ap,x.ex.aC k pl,x.bJ.bS k (fun c hc e=>by omega),lo⟩,k.next⟩
theorem InS.rewrite (hlen:content.length≤4096) (h20 : ∀ r∈content,r.length≤20000) : ∃ a25 c25 g1 v1 g2 pv g3 v' S' pu g4 g5 g6,CD 25 [ptr d 0] g=some (.slice a25 (128*n) c25,g1)∧CD 24 [w] g1=some (v1,g2) ∧
   CD 23 [ptr j 0,v1] g2=some (.tuple #[pv,.int .i64 (J.rewrite D content).1],g3)∧ch 6 (ptr f2 0) g3=some (v,g3)∧ch 8 (ptr p2 0) g3=some (.agg J'.rc.toArray,g3) ∧
   CD 40 [v,.agg J'.rc.toArray,w] g3=some (.tuple #[v',.agg (J'.rewrite U content).2.2.1.rc.toArray,pu,.int .i64 (J'.rewrite U content).1],g4)∧cf 6 (ptr f2 0) v' g4=some (undef,g5)∧cf 8 (ptr p2 0) (.agg (J'.rewrite U content).2.2.1.rc.toArray) g5=some (undef,g6) ∧
   InS h0 g6 n N d f bb j f2 p2 (J.rewrite D content).2.1 (J'.rewrite U content).2.1 S' v' (J.rewrite D content).2.2.1 (J'.rewrite U content).2.2.1 w content ev extra∧av a25 (128*n) g6=some D.aW∧cQ a25 (128*n) c25=true∧g.next≤g6.next:=by
 have lo:=x.lo
 obtain ⟨hn1,hn2,hn3⟩:=x.hn
 have h4:=x.four
 obtain ⟨a25,c25,g1,e25,s25,t25,u25,o1⟩:=r25 x.dk
 rw [hn1] at e25 s25 t25
 have x1:=x.aC o1
 obtain ⟨v1,cl,g2,e24,ow,E,o2⟩:=r24 x1.own.S (by omega) (fun r hr=>by have:=h20 r hr;omega)
 have x2:=x1.aC o2
 have jlt:=x1.xj.lt
 have dlt:=x1.dk.lt
 have blt:=x1.dk.blt
 have hF : ∀ b,g1.next≤b → ¬rwF j d D b:=by
  intro b hb hc
  rcases hc with hc|hc|hc<;>omega
 obtain ⟨pv,g3,e23,xd3,hb3,hn3',xj3,k3,_⟩:=r23 x2.dk x2.xj (by omega) x2.jok (E.G ow hF hF) (by omega)
 rw [hn2] at k3 hb3
 have hn3':=hn3'.trans hn1
 have flt:f2<g1.next:=x1.box.lt
 have plt:p2<g1.next:=g1.aR x1.gp
 have rf3:=x2.rf k3
 have l6:=(x2.box.aC k3 (by omega)).ld
 have gp3:=k3.dp x2.gp (by omega)
 have l8:ch 8 (ptr p2 0) g3=some (.agg J'.rc.toArray,g3):=cZ gp3 rfl (fC J')
 have nn3:=k3.next
 have nn1:=o1.next
 have nn2:=o2.next
 have dkP:dq g2 d:=dk_plain x2.dk
 have jP:dq g2 j:=⟨_,x2.xj.get,J.plain d⟩
 have own3:=x2.own.aC k3 (fun b hb e=>by have:=x2.ap b hb;have:=x2.own.base hb;omega) (fun c e=>by
  rcases e with e|e|e
  ·subst e;exact .inr jP
  ·subst e;exact .inr dkP
  ·left;omega)
 obtain ⟨v',S',pu,g4,e40,xr4,q4,o4,_⟩:=r40 (D:=U) (J:=J') rf3 (fun b hb=>by omega) x.eq x.dok x.jok' (own3.V (by omega) (fun r hr=>by have:=h20 r hr;omega)) (by omega)
 have hd:=rewrite_dok x.dok J' content
 obtain ⟨g5,g6,s5,s6,x6,k6,pf2,pp2⟩:=x2.upd k3 xd3 hb3 hn3' xj3 (rewrite_jok x2.jok (hn3'.trans hn1.symm)) o4 xr4 q4 hd.1 (hd.2.trans hn3) (rewrite_jok x.jok' hd.2)
 have nn4:=o4.next
 have nn6:=k6.next
 have b2:=Old.bytes o2 s25
 have b3:av a25 (128*n) g3=some D.aW:=k3.bytes b2 (fun y hy hn0 hB=>by
  have:=u25 y hy
  have jlt:=x.xj.lt
  have dlt:=x.dk.lt
  have blt:=x.dk.blt
  omega)
 have b6:=k6.ea (fun b hb=>by rcases hb with e|e<;>subst e<;>assumption) (Old.bytes o4 b3)
 exact ⟨a25,c25,g1,v1,g2,pv,g3,v',S',pu,g4,g5,g6,e25,e24,e23,l6,l8,e40,s5,s6,x6,b6,t25,by omega⟩
end
end Go.Proofs.Ytcmfgmhadeeieaa

namespace Go.Proofs.Ytcmfgmhadeeieaa
open Go Go.Abs
attribute [local congr] ft
theorem OutS.off {h0 g:ah} {n N d f bb:Nat} {D:Dk} {w:Value} {content:List (List Nat)} {ev:Value} {extra:List Nat} {cut:Bool} {gen k:Nat} {aT:List (List Nat)} (x:OutS h0 g n N d f bb D w content ev extra cut gen k aT) :
  ∃ g1,CD 32 [ptr d 0] g=some (.tuple #[],g1)∧OutS h0 g1 n N d f bb D.off w content ev extra cut gen k aT:=by
 obtain ⟨hn1,hn2⟩:=x.hn
 have lo:=x.lo
 obtain ⟨e32,x1,k1⟩:=r32 x.dk
 rw [hn2] at k1
 have ho:=D.fW
 have pl : ∀ c,(c=d∨c=bb)→c<N∨dq g c:=fun c e=>by left;omega
 have n1:=k1.next
 exact ⟨_,e32,x1,⟨ho.n.trans hn1,ho.bb.trans hn2⟩,x.pf.aC k1 (by omega),x.own.aC k1 (fun b hb e=>by have:=x.own.base hb;omega) pl,x.ex.aC k1 pl,x.bJ.bS k1 (fun c hc e=>by omega),by omega,x.lv.cong ho.aW ho.n,x.rel⟩
def outInv (h0:ah) (v1:Value) (lives:List LifeD) (n N d f bb:Nat) (k:Nat) (y:Nat→Value) (g:ah):Prop:=
 ∃ i,i+k=lives.length∧OutI h0 v1 n N d f bb i i y g
def outFin (ex:Ex) (y:Nat→Value) (_g:ah):Prop:=(ex = .ret∧y 4 = .bool true)∨ex = .exit 0
theorem b9_exit (C:al) (e:Env) (h:ah):b9_47 C 2 e h=k9_45 C e h:=rfl
theorem b9_0 (C:al) (e:Env) (h:ah):b9_10 C 0 e h=k9_8 C e h:=rfl
theorem t9k9_14_at {Z:Nat→Value} {g:ah} {i:Nat} (h:Z 13=aq i) (hi:i≤100):t9k9_14 CD Z g=some (.normal,aY 230 (up Z [(13,aq (i+1)),(53,aq i),(54,aq (i+1))]),g):=by
 unfold t9k9_14
 simp -implicitDefEqProofs only [h,af,aj,ef (show i+1≤9223372036854775807 by omega)]
section
variable {h0:ah} {v1:Value} {lives:List LifeD} (L:LivesV h0 v1 lives) (h12:lives.length≤12) {n N d f bb:Nat} (hn:4≤n∧n≤64)
include L h12 hn
set_option maxRecDepth 100000 in
set_option maxHeartbeats 4000000 in
theorem out_round : ∀ k y g,outInv h0 v1 lives n N d f bb k y g→cY 230 (outInv h0 v1 lives n N d f bb) outFin k (ey CD y g):=by
 rintro k y g ⟨i,hik,D,w,content,ev,extra,cut,gen,aT,rg,y9,bM,bY,bX,st⟩
 have hll:=L.len
 have hx0 : ∀ a b:Value,aD (.tuple #[a,b]) 0=some a:=fun _ _=>rfl
 have hx1 : ∀ a b:Value,aD (.tuple #[a,b]) 1=some b:=fun _ _=>rfl
 have hy0 : ∀ a b c:Value,aD (.tuple #[a,b,c]) 0=some a:=fun _ _ _=>rfl
 have hy1 : ∀ a b c:Value,aD (.tuple #[a,b,c]) 1=some b:=fun _ _ _=>rfl
 have hy2 : ∀ a b c:Value,aD (.tuple #[a,b,c]) 2=some c:=fun _ _ _=>rfl
 have hz0 : ∀ a b c d:Value,aD (.tuple #[a,b,c,d]) 0=some a:=fun _ _ _ _=>rfl
 have hz1 : ∀ a b c d:Value,aD (.tuple #[a,b,c,d]) 1=some b:=fun _ _ _ _=>rfl
 have hz2 : ∀ a b c d:Value,aD (.tuple #[a,b,c,d]) 2=some c:=fun _ _ _ _=>rfl
 have hz3 : ∀ a b c d:Value,aD (.tuple #[a,b,c,d]) 3=some d:=fun _ _ _ _=>rfl
 have hud:(aZ undef==some true)=false:=rfl
 have heql : ∀ a b:Int,bin Try.prog .eql 28 (.int .i64 a) (.int .i64 b)=some (.bool (a==b)):=fun a b=>eU ..
 by_cases hi:i<lives.length
 ·obtain ⟨b,o,wl,lf,hlf,e1,e2,R,wA,_⟩:=L.at hi
  have ld3 : ∀ z,Old h0 z→ba (ptr b (o+3)) z=some (wl,z):=fun z oz=>(e2 z oz).2
  have ld4 : ∀ z,Old h0 z→ch 4 (ptr b o) z=some (.agg (lfC lf wl).toArray,z):=fun z oz=>(e2 z oz).1
  have hw4:=R.lenL'
  have hwl:wl.oneCell'=true∧wl.cells = #[wl]:=by obtain ⟨_,_,_,rfl,_⟩:=R;exact ⟨rfl,rfl⟩
  have hg:bin Try.prog .gtr 3 (aq lf.aT.length) (.int .i64 20)=some (.bool (decide (20<lf.aT.length))):=gtr3k _ 20
  by_cases h20:20<lf.aT.length
  ·unfold ey
   simp (maxSteps:=3000000) -implicitDefEqProofs only [rg.bR,rg.y1,rg.y0,hll,fT,decide_eq_true hi,e1,ax,ld3 g st.bJ,hw4,hg,decide_eq_true h20,af,aj,ay,sf,aF,if_true,r14]
   exact cY.ret (.inl ⟨rfl,rfl⟩)
  obtain ⟨q1,q2,q3⟩:=r17 (R.bJ st.bJ) (n:Int)
  have oA:Old g (g.alloc [.int .i64 0,.int .i64 0,.int .i64 0,.int .u8 0,.slice none 0 0,wl]):=Kept.alloc _ _ _
  have stA:=st.aC oA
  generalize g.alloc [.int .i64 0,.int .i64 0,.int .i64 0,.int .u8 0,.slice none 0 0,wl]=gA at *
  generalize hhv:(decide (64<(n:Int))&&decide ((n:Int)≤4096)||(decide (40<lf.aT.length)||lf.aT.any fun r=>decide (21000<r.length)))=hv at q3
  have q3:CD 17 [aq n,.slice (some ⟨g.next,0,none⟩) 1 1] gA=some (.bool hv,gA):=q3
  cases hv with
  |true=>
   unfold ey
   simp (maxSteps:=3000000) -implicitDefEqProofs only [rg.bR,rg.y1,rg.y0,hll,fT,decide_eq_true hi,e1,ax,ld3 g st.bJ,hw4,hg,decide_eq_false h20,af,aj,ay,beq_self_eq_true,aA,q1,q2,q3,Bool.false_eq_true,if_false,r14]
   exact cY.ret (.inl ⟨rfl,rfl⟩)
  |false=>
   have h21 : ∀ r∈lf.aT,r.length≤21000:=by
    intro r hr
    simp only [Bool.or_eq_false_iff] at hhv
    have:=List.any_eq_false.1 hhv.2.2 r hr
    simp at this;omega
   obtain ⟨j,w1,g1,g2,w2,g3,e33,e21,e36,e30,e29,md3,oc3⟩:=stA.open_ hn
   have hc : ∃ (tt:Bool) (gm:ah),Old g3 gm∧decide (aT=content)=tt∧(tt=true→gm=g3)∧(tt=false→cut=true ∧ ∃ x1 ga b2 gb x3,CD 24 [w] g3=some (x1,ga)∧cX 1 (.slice none 0 0) 1 [(0,ev)] ga=some (.slice (some ⟨b2,0,none⟩) 1 1,gb)∧bo 1 24 x1 (.slice (some ⟨b2,0,none⟩) 1 1) gb=some (x3,gm)∧CD 29 [w2,x3] gm=some (.bool true,gm)):=by
    by_cases hr:aT=content
    ·exact ⟨true,g3,Kept.refl _ _,decide_eq_true hr,fun _=>rfl,fun h=>by cases h⟩
    ·rcases stA.rel with h|⟨hcut,h⟩
     ·exact absurd h hr
     ·obtain ⟨x1,ga,b2,gb,x3,gm,a1,a2,a3,a4,a5⟩:=md3.twice hn oc3 h
      exact ⟨false,gm,a5,decide_eq_false hr,fun h=>(by cases h),fun _=>⟨hcut,x1,ga,b2,gb,x3,a1,a2,a3,a4⟩⟩
   obtain ⟨tt,gm,om,htt,t1,t2⟩:=hc
   rw [htt] at e29
   have md:=md3.aC om
   obtain ⟨a,c,g4,v4,g5,g6,v6,w6,g7,f2,g8,p2,g9,g10,g11,S,l1,l2,l3,l4,l5,l6,l7,l8,l9,in11,nx11⟩:=md.load hn
   have hdn:D.on.opened.down=false:=rfl
   obtain ⟨g12,E,e39,i1,i2,i3,i4,in12,nx12⟩:=in11.arm hdn hwl wA
   obtain ⟨hl1,hl2⟩:=md.lv.lens (by have:=md.hn.1;omega)
   obtain ⟨a25,c25,g13,x13,g14,pv,g15,v',S',pu,g16,g17,g18,m1,m2,m3,m4,m5,m6,m7,m8,in18,was,wasg,nx18⟩:=in12.rewrite hl1 hl2
   have hDn:D.on.n=n:=md.hn.1
   have byte : ∀ z∈D.on.aW,z<256:=md.dk.byte
   have ulen:(u0 D.on).opened.aW.length=128*(u0 D.on).opened.n:=md.dk.len
   have par:Par E (u0 D.on).opened:=⟨i1,i2,i3,⟨ulen,rfl,rfl⟩⟩
   have hliv:D.on.jn.live E=true:=by
    unfold Jn.live
    rw [i3,i4]
    show (!false&&(D.on.opened.aU==(D.on.opened.cz D.on.opened.aU).aU))=true
    rw [(openJ_rest D.on.opened D.on.opened.aU).1]
    simp
   have hliv':(u0 D.on).jn.live (u0 D.on).opened=true:=by
    unfold Jn.live
    show (!false&&((u0 D.on).opened.aU==((u0 D.on).opened.cz (u0 D.on).opened.aU).aU))=true
    rw [(openJ_rest (u0 D.on).opened (u0 D.on).opened.aU).1]
    simp
   obtain ⟨F,j',ps,z1,z2⟩:=md.lv.rewrite (U0:=u0 D.on) (by omega) byte par i1 i2 rfl rfl hliv hliv'
   have lo12:=in12.lo
   have ai1:bin Try.prog .add 3 (aq i) (.int .i64 1)=some (aq (i+1)):=ef (by omega)
   unfold ey
   cases tt
   case' true=>
    obtain rfl:=t1 rfl
    simp (maxSteps:=3000000) -implicitDefEqProofs only [rg.bR,rg.y1,rg.y0,rg.y5,rg.y7,y9,bM,bY,bX,hll,fT,decide_eq_true hi,e1,ax,Nat.add_zero,ld3 g st.bJ,hw4,hg,decide_eq_false h20,af,aj,ay,beq_self_eq_true,aA,q1,q2,q3,Bool.false_eq_true,if_false,e33,e21,hy0,hy1,hy2,dG,bne_self_eq_false,e36,e30,e29,cC,Bool.not_true,fs,hud,aF,
     l1,l2,hx0,hx1,l3,l4,l5,hz0,hz1,hz2,hz3,l6,l7,l8,l9,ld4 g11 in11.bJ,e39,m1,m2,m3,m4,m5,m6,m7,m8,heql]
   case' false=>
    obtain ⟨hcut,x1,ga,b2,gb,x3,a1,a2,a3,a4⟩:=t2 rfl
    rw [hcut] at bY
    simp (maxSteps:=3000000) -implicitDefEqProofs only [rg.bR,rg.y1,rg.y0,rg.y5,rg.y7,y9,bM,bY,bX,hll,fT,decide_eq_true hi,e1,ax,Nat.add_zero,ld3 g st.bJ,hw4,hg,decide_eq_false h20,af,aj,ay,beq_self_eq_true,aA,q1,q2,q3,Bool.false_eq_true,if_false,e33,e21,hy0,hy1,hy2,dG,bne_self_eq_false,e36,e30,e29,cC,Bool.not_false,Bool.not_true,if_true,a1,a2,a3,a4,
     l1,l2,hx0,hx1,l3,l4,l5,hz0,hz1,hz2,hz3,l6,l7,l8,l9,ld4 g11 in11.bJ,e39,m1,m2,m3,m4,m5,m6,m7,m8,heql]
   all_goals
    rw [z1] at in18
    rcases z2 with ⟨E2,J2,r1,rn,hgt,hle,_⟩|⟨T,r1,hT⟩
    ·have hr0:(D.on.jn.rewrite E aT).1=0:=by rw [r1]
     rw [r1] at in18
     have e34:=r34 in18.dk in18.xj
     rw [rn.live,if_pos rfl] at e34
     have hleq:bin Try.prog .leq 58 (.int .u64 (J2.gen:Int)) (.int .u64 (gen:Int))=some (.bool false):=by rw [bin_leq,decide_eq_false (by omega)]
     simp (maxSteps:=3000000) -implicitDefEqProofs only [hr0,show ((0:Int)==9)=false from rfl,bne_self_eq_false,beq_self_eq_true,aA,e34,hleq,af,aj,Bool.false_eq_true,if_false]
     refine cn (Q:=fun o=>cY 230 (outInv h0 v1 lives n N d f bb) outFin k o) (cg (fP CD) (Inv:=inInv h0 v1 n N d f bb j f2 p2 i lf.aT) (fin:=inFin h0 v1 n N d f bb i) (fun k' y' g' hI=>by
       obtain ⟨q',D',U',S1,v1',J1,J1',w',c',ev',ex',A⟩:=hI
       exact in_round L hlf h21 A) lf.aT.length (by have:rounds=18446744073709551616:=rfl;omega)
      ⟨0,E2,F,S',v',J2,j',w2,aT,ev,extra,Nat.zero_add _,⟨rg.y0,rg.y1,rg.y5,rg.y7,rg.bR⟩,rfl,rfl,rfl,rfl,rfl,bM,rfl,rfl,in18,rn,hle,by omega⟩) ?_
     rintro ex z gz (⟨rfl,z4⟩|⟨rfl,D',w',c',ev',ex',cut',gen',recs',rg',y9',y10',y11',y12',st'⟩)
     ·rw [iG]
      exact cY.ret (.inl ⟨rfl,z4⟩)
     ·obtain ⟨g1',e32,st2⟩:=st'.off
      rw [bA,b9_exit,t9k9_45_eq]
      unfold t9k9_45
      simp -implicitDefEqProofs only [rg'.y5,e32,af,t9k9_14_eq]
      rw [t9k9_14_at (Z:=up z [(227,ptr d 0),(228,Value.tuple #[])]) rg'.bR (by omega)]
      exact cY.next (k-1) (by omega) ⟨i+1,by omega,D'.off,w',c',ev',ex',cut',gen',recs',⟨rg'.y0,rg'.y1,rg'.y5,rg'.y7,rfl⟩,y9',y10',y11',y12',st2⟩
    ·have hr0:(D.on.jn.rewrite E aT).1=9:=by rw [r1]
     rw [r1] at in18
     obtain ⟨ais,cis,hvs,y1s,y2s,_⟩:=in18.xr
     obtain ⟨ks,gks,hks,_,_⟩:=in18.box
     have hkk:ks=S'.cells (.slice ais S'.aW.length cis):=by
      have:=hvs.symm.trans hks
      injection this with h1
      have:=congrArg Array.toList h1
      simpa using this.symm
     subst hkk
     have lis:ba (ptr f2 0) g18=some (.slice ais S'.aW.length cis,g18):=aN gks rfl rfl
     obtain ⟨a7,c7,g19,e25,s25,t25,_,o7⟩:=r25 in18.dk
     rw [in18.hn.1] at e25 s25 t25
     have st7:=in18.aC o7
     have lis7:ba (ptr f2 0) g19=some (.slice ais S'.aW.length cis,g19):=aN (Old.get o7 gks) rfl rfl
     have hSl:S'.aW.length=128*n:=by
      rw [in18.eq.aW,in18.dok.aW,in18.hn.2.2]
     rw [hSl] at lis lis7 y1s y2s
     rw [in18.eq.aW] at y1s
     have e41:=r41 (c0:=c25) (c1:=cis) (c2:=c7) wasg y2s t25 (Old.bytes o7 was) (Old.bytes o7 y1s) s25 (by omega)
     have ck:cE true (some (.slice ais (128*n) cis,g19)) (.slice ais (128*n) cis)=true:=dJ rfl (by simp [veq])
     simp (maxSteps:=3000000) -implicitDefEqProofs only [hr0,beq_self_eq_true,lis,e25,e41,lis7,ck,Bool.and_true,af,aj]
     cases hfg:fgB n E.aW F.aW T.aW with
     |true=>
      simp (maxSteps:=3000000) -implicitDefEqProofs only [r14,af]
      exact cY.ret (.inl ⟨rfl,rfl⟩)
     |false=>
      simp (maxSteps:=3000000) -implicitDefEqProofs only [ai1,af,aj]
      have lv:=hT (fgB_nf (by rw [show E.n=n from i2.trans hDn];exact hfg))
      have lo7:=st7.lo
      have n7:=o7.next
      exact cY.next (k-1) (by omega) ⟨i+1,by omega,T,w2,aT,ev,extra,false,gen,aT,⟨rg.y0,rg.y1,rg.y5,rg.y7,rfl⟩,rfl,bM,rfl,bX,⟨st7.dk,⟨st7.hn.1,st7.hn.2.1⟩,st7.pf,st7.own,st7.ex,st7.bJ,by omega,lv,.inl rfl⟩⟩
 ·unfold ey
  simp (maxSteps:=3000000) -implicitDefEqProofs only [rg.bR,rg.y1,hll,fT,decide_eq_false hi,af,aj]
  exact cY.out 0 (.inr rfl)
end
end Go.Proofs.Ytcmfgmhadeeieaa

namespace Go.Proofs.Ytcmfgmhadeeieaa
open Go Go.Abs
theorem is9:cA Try.prog 9 Try.f9:=⟨by kernel_rfl,by kernel_rfl,by kernel_rfl,by kernel_rfl⟩
theorem results9:Try.f9.results.toList = [.tmp 4]:=by kernel_rfl
set_option maxRecDepth 100000 in
theorem dev9 (a:Int) {h:ah} {v:Value} {lives:List LifeD} (L:LivesV h v lives) : ∃ h',CD 9 [.int .i64 a,v] h=some (.bool true,h'):=by
 have hn0:=h.aH
 have hll:=L.len
 have hg:bin Try.prog .gtr 3 (aq lives.length) (.int .i64 12)=some (.bool (decide (12<lives.length))):=gtr3k _ 12
 have key : ∃ h',t9 CD (.int .i64 a) v h=some (.bool true,h'):=by
  unfold t9
  by_cases h4:a<4
  ·simp -implicitDefEqProofs only [af,bT,aj,ay,decide_eq_true h4,sf,aF,if_true,r14]
   exact ⟨_,rfl⟩
  by_cases h64:a>64
  ·simp -implicitDefEqProofs only [af,bT,dM,aj,ay,decide_eq_false h4,decide_eq_true h64,sf,beq_self_eq_true,aA,aF,Bool.false_eq_true,if_false,if_true,r14]
   exact ⟨_,rfl⟩
  by_cases h12:12<lives.length
  ·simp -implicitDefEqProofs only [af,bT,dM,aj,ay,decide_eq_false h4,decide_eq_false h64,beq_self_eq_true,aA,Bool.false_eq_true,if_false,hll,hg,decide_eq_true h12,r14]
   exact ⟨_,rfl⟩
  obtain ⟨n,rfl⟩ : ∃ n:Nat,a=n:=⟨a.toNat,by omega⟩
  have hg:=hg
  obtain ⟨e18,x1,o1⟩:=r18 h (n:=n) (by omega) (by omega)
  have hn1:(gR h n).next=h.next+2:=rfl
  have hbb:(Dk.new h n).bb=h.next:=rfl
  obtain ⟨rv,g2,e35,r2,o2⟩:=r35 (gR h n) (n:=n) (by omega) (by omega)
  have hDn:(Dk.new h n).n=n:=rfl
  have x2:=Old.dk o2 x1
  have lv:Lv (Dk.new h n) 0 [] 0:=Fresh.lv (new_fresh h n) (by simp [Dk.new]) (by show 4≤n;omega)
  have o02:Old h g2:=o1.trans o2
  have hng2:=o2.next
  generalize gR h n=g1 at *
  generalize Dk.new h n=D at *
  have r2:=r2.mono (G:=fun c=>c=h.next+1∨c=D.bb) (fun b hb=>by show b<g1.next;omega)
  have e7:=new6 g2
  have z7:(g2.alloc cy).get g2.next=some cy:=by rw [ah.aE,if_pos rfl]
  have o23:Old g2 (g2.alloc cy):=Kept.alloc _ _ _
  have n3:(g2.alloc cy).next=g2.next+1:=ah.aS ..
  have n03:(g2.alloc cy).n0≤g2.next:=g2.aH
  generalize g2.alloc cy=g3 at *
  obtain ⟨g4,s1,s2,s3,s4,s5,_⟩:=(z6_pl z7).store (r2.bJ o23) n03
  have o24:Old g2 g4:=o23.bS s5 (fun c hc e=>by omega)
  have n4:=s5.next
  have b5:cX 1 (.slice none 0 0) 0 [] g4=some (.slice (some ⟨g4.next,0,none⟩) 0 0,g4.alloc []):=rfl
  have o45:Old g4 (g4.alloc []):=Kept.alloc _ _ _
  have n5:(g4.alloc []).next=g4.next+1:=ah.aS ..
  generalize g4.alloc []=g5 at *
  have b6:cX 1 (.int .u8 0) 0 [] g5=some (.slice (some ⟨g5.next,0,none⟩) 0 0,g5.alloc []):=rfl
  have o56:Old g5 (g5.alloc []):=Kept.alloc _ _ _
  have n6:(g5.alloc []).next=g5.next+1:=ah.aS ..
  have own6:iJ (g5.alloc []) g4.next (.slice (some ⟨g4.next,0,none⟩) 0 0) []:=⟨[],cw.empty _ (Nat.le_refl _),cP.nil _ _⟩
  have ownB6:dr (g5.alloc []) g4.next (.slice (some ⟨g5.next,0,none⟩) 0 0) []:=⟨cw.empty _ (by omega),by simp⟩
  generalize g5.alloc []=g6 at *
  have o46:Old g4 g6:=o45.trans o56
  have o26:Old g2 g6:=o24.trans o46
  have st:OutS h g6 n g4.next (h.next+1) g2.next h.next D (.slice (some ⟨g4.next,0,none⟩) 0 0) [] (.slice (some ⟨g5.next,0,none⟩) 0 0) [] false 0 0 []:=
   ⟨Old.dk o26 x2,⟨hDn,hbb⟩,s3.aC o46 (fun h=>h),own6,ownB6.X,o02.trans o26,by omega,lv,.inl rfl⟩
  have run : ∀ Z:Nat→Value,Z 0=aq n→Z 1=v→Z 5=ptr (h.next+1) 0→Z 7=ptr g2.next 0→Z 9 = .slice (some ⟨g4.next,0,none⟩) 0 0→Z 10 = .slice (some ⟨g5.next,0,none⟩) 0 0→Z 11 = .bool false→Z 12 = .int .u64 0→Z 13=aq 0 →
    ∃ h',dD (iter (aI Try.prog CD (partOf Try.f9 [1,1,1,1,1,1,0,1,0,0])) rounds (aY 230 Z) g6) (au Try.prog Try.f9.results.toList) (b9_10 CD)=some (.bool true,h'):=by
   intro Z z0 z1 z5 z7' z9 z10 z11 z12 z13
   refine cn (Q:=fun o:Out => ∃ h',o=some (Value.bool true,h'))
    (cg (t9l9_111111010_eq CD) (out_round L (by omega) ⟨by omega,by omega⟩) lives.length (by have:rounds=18446744073709551616:=rfl;omega)
     ⟨0,Nat.zero_add _,D,_,[],_,[],false,0,[],⟨z0,z1,z5,z7',z13⟩,z9,z10,z11,z12,st⟩) ?_
   rintro ex z g (⟨rfl,z4⟩|rfl)
   ·rw [iG,res_one (t:=4) results9 (by decide),z4]
    exact ⟨_,rfl⟩
   ·simp -implicitDefEqProofs only [bA,b9_0,t9k9_8_eq]
    unfold t9k9_8
    simp -implicitDefEqProofs only [r14,af]
    exact ⟨_,rfl⟩
  have e18:CD 18 [.int .i64 (n:Int)] h=some (.tuple #[ptr (h.next+1) 0,.int .i64 0],g1):=e18
  have e35:CD 35 [.int .i64 (n:Int)] g1=some (.tuple #[rv,.int .i64 0],g2):=e35
  simp -implicitDefEqProofs only [af,bT,dM,aj,ay,decide_eq_false h4,decide_eq_false h64,beq_self_eq_true,aA,Bool.false_eq_true,if_false,hll,hg,decide_eq_false h12,e18,xt20,xt21,e35,e7,s1,b5,b6]
  exact run _ rfl rfl rfl rfl rfl rfl rfl rfl rfl
 obtain ⟨h',e⟩:=key
 exact ⟨h',aO is9 rfl ((t9_eq _ _ _ _).trans e)⟩
end Go.Proofs.Ytcmfgmhadeeieaa

