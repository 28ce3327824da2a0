/-
  A part of the proof, spaces and names shortened by a program (a claim may hold 1,500,000 bytes).
  Conditions: as each theorem states.
-/
import Derived.Test.YtcmfgmhadeeieaaG14
namespace Go.Proofs.Ytcmfgmhadeeieaa
open Go Go.Abs
theorem Dj.aG {h g g':af} {F:Nat→Prop} {v:Value} {S:Rf} {k8:dV} (x:Dj h g F v S k8) (o:Old g g'):Dj h g' F v S k8:=
 ⟨x.box.aG o (fun h=>h),x.p6.aG o (fun h=>h),Old.get o x.j,x.r6.aG o (fun h=>h),Old.get o x.r8,x.xr.bS o,x.bS.trans o⟩
theorem Dj.store {h g g1:af} {F:Nat→Prop} {v w:Value} {S T:Rf} {k8:dV} (x:Dj h g F v S k8) (o:Old g g1) (y:bT g1 F w T) : ∃ g2,bK 6 (ptr h.next 0) w g1=some (undef,g2)∧Dj h g2 F w T k8∧Kept g1 g2 (fun c=>c=h.next):=by
 have hn0:=h.aF
 have oo:=x.bS.trans o
 obtain ⟨g2,s1,s2,s3,s4,s5,_⟩:=(x.p6.aG o (fun h=>h)).store y (by rw [oo.n0];omega)
 exact ⟨g2,s1,⟨s2,s3,s5.cB (Old.get o x.j) (by omega),(x.r6.aG o (fun h=>h)).aG s5 (by omega),s5.cB (Old.get o x.r8) (by omega),s4,oo.bM s5 (fun c hc e=>by omega)⟩,s5⟩
theorem Dj.setJ {h g:af} {F:Nat→Prop} {v u:Value} {S:Rf} {k8 k9:dV} {i:Nat} (x:Dj h g F v S k8) (hp : ∀ u∈k8,nat8 u=none) (hi:i<k8.length) (hs:k8.set i u=k9) (h1:u.cells = #[u]) (h2:u.oneCell'=true) :
  ∃ g2,bK 1 (ptr (h.next+1) i) u g=some (undef,g2)∧Dj h g2 F v S k9∧Kept g g2 (fun c=>c=h.next+1):=by
 have hn0:=h.aF
 subst hs
 have s:=dm (v:=u) x.j hi (by rw [x.bS.n0];omega) h1 h2
 obtain ⟨k1,k2⟩:=eS (k':=k8.set i u) x.j (by rw [x.bS.n0];omega)
 refine ⟨_,s,⟨x.box.aG k1 (by omega),x.p6.aG k1 (by omega),k2,x.r6.aG k1 (by omega),k1.cB x.r8 (by omega),?_,x.bS.bM k1 (fun c hc e=>by omega)⟩,k1⟩
 obtain ⟨a,c,rfl,y1,y2,y3⟩:=x.xr
 exact ⟨a,c,rfl,k1.ef (fun b e=>by subst e;exact ⟨_,x.j,hp⟩) y1,y2,y3⟩
theorem ck_rc (J:Jn) (z:af):bU true (some (Value.agg J.rc.toArray,z)) (.agg J.rc.toArray)=true:=du rfl (by simp [veq,veqL,Jn.rc,ao])
theorem ck_miss (z:af):bU true (some (Value.agg cT.toArray,z)) (.agg cT.toArray)=true:=du rfl (by simp [veq,veqL,cT])
theorem ck_rf {h:af} {F:Nat→Prop} {v:Value} {S:Rf} (x:bT h F v S) (z:af):bU true (some (v,z)) v=true:=by
 obtain ⟨a,c,rfl,_⟩:=x
 exact du rfl (veq_cells _ _ _ _)
theorem r42_miss {h:af} {F:Nat→Prop} {v:Value} {S:Rf} (x:bT h F v S) (w:Value) : ∃ h',CD 42 [v,.agg cT.toArray,w] h=some (.tuple #[v,.agg cT.toArray,.int .i64 0,.int .i64 1],h')∧bT h' F v S∧Old h h':=by
 obtain ⟨g,g2,g3,g4,b1,b2,b3,b4,dj⟩:=dj4 x (k8:=cT) rfl
 have m7:aV (ptr (h.next+1) 7) g4=some (.bool true,g4):=aJ dj.j rfl rfl
 obtain ⟨l6,l8,q1,q2,f1,f2,f3,f4,f5,f6,f7,_⟩:=dj.fin rfl rfl rfl
 refine ⟨q2,aK is42 rfl ((t42_eq _ _ _ _ _).trans ?_),f6,f7⟩
 unfold t42
 simp -implicitDefEqProofs only [b1,b2,b3,b4,ae,ax,Nat.zero_add,aj,m7,l6,l8,f1,f2,f3,ck_miss,Bool.and_true]
 exact res_c4 (rs:=Try.f42.results.toList) (n:=69) results42 (by decide) (by decide) (by decide) (by decide) ld63 ld70 _ f4 f5
set_option maxRecDepth 100000 in
theorem r42 {h:af} {F:Nat→Prop} {v:Value} {S:Rf} {D:Dk} {J:Jn} {a:Option Addr} {n c:Nat} {rec_:List Nat} (x:bT h F v S) (hF : ∀ b,F b→b<h.next) (q:Eqd D S) (dok:Dok D) (ok:JnOk J D) (hs:av a n h=some rec_) (hgd:goodZ a n c) (hn:n≤100000000) :
  ∃ v' S' h',CD 42 [v,.agg J.rc.toArray,.slice a n c] h=some (.tuple #[v',.agg (J.append D rec_).2.2.rc.toArray,ao (if (J.append D rec_).1=0 then J.fin else 0),.int .i64 (J.append D rec_).1],h')∧bT h' F v' S'∧Eqd (J.append D rec_).2.1 S'∧Old h h':=by
 obtain rfl:=(aB hs).1
 have har:D.ar=(D.n-2)/2:=rfl
 have hsm:=dok.small
 obtain ⟨g,g2,g3,g4,b1,b2,b3,b4,dj⟩:=dj4 x (gM J)
 have m7:aV (ptr (h.next+1) 7) g4=some (.bool false,g4):=aJ dj.j rfl rfl
 have l6:=dj.box.ld
 have l8:=cz (n:=8) dj.j rfl (fM J)
 obtain ⟨q1,e68,o1⟩:=r68 dj.xr q J
 have dj1:=dj.aG o1
 have hll:cK (.slice a rec_.length c)=some (ao rec_.length):=rfl
 have hg20:=gtr3k rec_.length 20000
 have hg20:bin Try.prog .gtr 3 (ao rec_.length) (.int .i64 20000)=some (.bool (decide (20000<rec_.length))):=hg20
 suffices key : ∃ v' S' h',t42 CD v (.agg J.rc.toArray) (.slice a rec_.length c) h=some (.tuple #[v',.agg (J.append D rec_).2.2.rc.toArray,ao (if (J.append D rec_).1=0 then J.fin else 0),.int .i64 (J.append D rec_).1],h')∧bT h' F v' S'∧Eqd (J.append D rec_).2.1 S'∧Old h h' by
  obtain ⟨v',S',h',e,r⟩:=key
  exact ⟨v',S',h',aK is42 rfl ((t42_eq _ _ _ _ _).trans e),r⟩
 unfold t42 Jn.append
 simp -implicitDefEqProofs only [b1,b2,b3,b4,ae,ax,Nat.zero_add,aj,m7,l6,l8,e68,bR]
 obtain ⟨k6,k8,z1,z2,f1,f2,f3,f4,f5,f6,f7,_⟩:=dj1.fin rfl (gM J) (fM J)
 have fin : ∀ (e:Int) (y:Nat→Value),y 6=ptr (h.next+2) 0→y 7=ptr (h.next+3) 0→y 8 = .int .i64 0→y 9 = .int .i64 e→al Try.prog Try.f42.results.toList (aZ 69 y) z2=some (.tuple #[v,.agg J.rc.toArray,.int .i64 0,.int .i64 e],z2):=by
  intro e y y6 y7 y8 y9
  have:=res_c4 results42 (n:=69) (by decide) (by decide) (by decide) (by decide) ld63 ld70 y (h:=z2) (v:=v) (w := .agg J.rc.toArray) (by rw [y6];exact f4) (by rw [y7];exact f5)
  rw [y8,y9] at this
  exact this
 cases hL:J.live D with
 |false=>
  simp -implicitDefEqProofs only [Bool.not_false,ae,k6,k8,f1,f2,f3,ck_rc,Bool.and_true,if_true,show ((9:Int)=0)=False from eq_false (by decide),if_false]
  exact ⟨v,S,z2,fin 9 _ rfl rfl rfl rfl,f6,q,f7⟩
 |true=>
  have m5:aV (ptr (h.next+1) 5) q1=some (.bool J.ready,q1):=aJ dj1.j rfl rfl
  simp -implicitDefEqProofs only [Bool.not_true,ae,ax,Nat.zero_add,aj,m5,bR,show (true=false)=False from eq_false (by decide),if_false]
  cases hR:J.ready with
  |false=>
   simp -implicitDefEqProofs only [Bool.not_false,ae,k6,k8,f1,f2,f3,ck_rc,Bool.and_true,if_true,show ((30:Int)=0)=False from eq_false (by decide),if_false]
   exact ⟨v,S,z2,fin 30 _ rfl rfl rfl rfl,f6,q,f7⟩
  |true=>
   obtain ⟨hfin,hslot⟩:=ok.ready hR
   simp -implicitDefEqProofs only [Bool.not_true,ae,hll,aj,hg20,show (true=false)=False from eq_false (by decide),if_false]
   by_cases h20:20000<rec_.length
   ·simp -implicitDefEqProofs only [decide_eq_true h20,ae,k6,k8,f1,f2,f3,ck_rc,Bool.and_true,if_pos h20,show ((3:Int)=0)=False from eq_false (by decide),if_false]
    exact ⟨v,S,z2,fin 3 _ rfl rfl rfl rfl,f6,q,f7⟩
   ·obtain ⟨q2,e73,o2⟩:=r73 dj1.xr q dok.aU dok.four dok.small (J:=J) (fun _=>hfin)
    have dj2:=dj1.aG o2
    have hfree:J.free D=D.ar-J.fin:=by unfold Jn.free;rw [hL,hR];rfl
    rw [hfree] at e73
    simp -implicitDefEqProofs only [decide_eq_false h20,r16 rec_.length _ hn,ae,k6,k8,e73,aj,gtr3,ck_rf dj1.xr,ck_rc,Bool.and_true,if_neg h20,hfree]
    by_cases hroom:D.ar-J.fin<a8 rec_.length
    ·obtain ⟨k6,k8,z1,z2,f1,f2,f3,f4,f5,f6,f7,_⟩:=dj2.fin rfl (gM J) (fM J)
     have fin : ∀ (e:Int) (y:Nat→Value),y 6=ptr (h.next+2) 0→y 7=ptr (h.next+3) 0→y 8 = .int .i64 0→y 9 = .int .i64 e→al Try.prog Try.f42.results.toList (aZ 69 y) z2=some (.tuple #[v,.agg J.rc.toArray,.int .i64 0,.int .i64 e],z2):=by
      intro e y y6 y7 y8 y9
      have:=res_c4 results42 (n:=69) (by decide) (by decide) (by decide) (by decide) ld63 ld70 y (h:=z2) (v:=v) (w := .agg J.rc.toArray) (by rw [y6];exact f4) (by rw [y7];exact f5)
      rw [y8,y9] at this
      exact this
     simp -implicitDefEqProofs only [decide_eq_true hroom,ae,k6,k8,f1,f2,f3,ck_rc,Bool.and_true,if_pos hroom,show ((8:Int)=0)=False from eq_false (by decide),if_false]
     exact ⟨v,S,z2,fin 8 _ rfl rfl rfl rfl,f6,q,f7⟩
    ·have old2:=dj2.bS
     obtain ⟨v',S',q3,e69,xr3,qq,dd,_,o3⟩:=r69 (h0:=q2) (F:=F) (D:=D) (aq:=J.aq) (gen:=J.gen) (at_:=J.fin) (c:=c) (fun b hb=>Nat.lt_of_lt_of_le (hF b hb) old2.next) ok.aq ok.gen (Old.bytes old2 hs) hgd (by omega) (by omega) dj2.xr q dok
     obtain ⟨q4,s4,dj4',_⟩:=dj2.store o3 xr3
     have l62:=dj2.box.ld
     have n6:aV (ptr (h.next+1) 6) q2=some (ao J.fin,q2):=aJ dj2.j rfl rfl
     have n3:aV (ptr (h.next+1) 3) q2=some (ao J.aq,q2):=aJ dj2.j rfl rfl
     have n2:aV (ptr (h.next+1) 2) q2=some (.int .u64 (J.gen:Int),q2):=aJ dj2.j rfl rfl
     have hx0 : ∀ a b:Value,aA (.tuple #[a,b]) 0=some a:=fun _ _=>rfl
     have hx1 : ∀ a b:Value,aA (.tuple #[a,b]) 1=some b:=fun _ _=>rfl
     simp -implicitDefEqProofs only [decide_eq_false hroom,ae,ax,Nat.zero_add,aj,n6,l62,n3,n2,e69,hx0,hx1,s4,cW,if_neg hroom]
     generalize hW:D.cd J.aq J.gen J.fin rec_=W at *
     by_cases hz:W.1=0
     ·have n64:aV (ptr (h.next+1) 6) q4=some (ao J.fin,q4):=aJ dj4'.j rfl rfl
      obtain ⟨q5,t1,dj5,_⟩:=dj4'.setJ (i:=6) (u:=ao (J.fin+a8 rec_.length)) (k9:=({ J with fin:=J.fin+a8 rec_.length }:Jn).rc) (rc_plain J) (by show 6<8;decide) rfl rfl rfl
      obtain ⟨k6,k8,z1,z2,f1,f2,f3,f4,f5,f6,f7,_⟩:=dj5.fin rfl (gM _) (fM _)
      have ckn : ∀ z:af,bU true (some (ao J.fin,z)) (ao J.fin)=true:=fun z=>du rfl (by simp [ao,veq])
      have hcl:=fC (show rec_.length≤21000 by omega)
      simp -implicitDefEqProofs only [hz,bne_self_eq_false,ae,ax,Nat.zero_add,aj,n64,hll,r16 rec_.length _ hn,gW (show J.fin+a8 rec_.length≤9223372036854775807 by omega),t1,ckn,k6,k8,f1,f2,f3,ck_rc,Bool.and_true,if_true]
      refine ⟨v',S',z2,?_,f6,qq,f7⟩
      rw [show ({ J with fin:=J.fin+a8 rec_.length }:Jn)={ bw:=J.bw,slot:=J.slot,aq:=J.aq,gen:=J.gen,known:=J.known,ready:=true,fin:=J.fin+a8 rec_.length } by rw [hR]] at f5
      exact res_c4 (rs:=Try.f42.results.toList) (n:=69) results42 (by decide) (by decide) (by decide) (by decide) ld63 ld70 _ f4 f5
     ·have hne:(W.1 != 0)=true:=by simpa using hz
      obtain ⟨k6,k8,z1,z2,f1,f2,f3,f4,f5,f6,f7,_⟩:=dj4'.fin rfl (gM J) (fM J)
      simp -implicitDefEqProofs only [hne,ae,k6,k8,f1,f2,f3,ck_rc,Bool.and_true,hz,if_false]
      exact ⟨v',S',z2,res_c4 (rs:=Try.f42.results.toList) (n:=69) results42 (by decide) (by decide) (by decide) (by decide) ld63 ld70 _ f4 f5,f6,qq,f7⟩
end Go.Proofs.Ytcmfgmhadeeieaa

namespace Go.Proofs.Ytcmfgmhadeeieaa
open Go Go.Abs
theorem is40:ch Try.prog 40 Try.f40:=⟨by kernel_rfl,by kernel_rfl,by kernel_rfl,by kernel_rfl⟩
theorem results40:Try.f40.results.toList = [.cell 6 63,.cell 7 70,.tmp 8,.tmp 9]:=by kernel_rfl
theorem b40_exit (C:ak) (e:Env) (h:af):b40_12 C 0 e h=k40_10 C e h:=rfl
theorem b40_exit2 (C:ak) (e:Env) (h:af):b40_24 C 2 e h=k40_22 C e h:=rfl
theorem gh.atZ {h:af} {w:Value} {vals:List (List Nat)} (R:gh h w vals) {i:Nat} {r:List Nat} (hi:vals[i]? = some r) : ∃ b p ai ni ci,bV 1 w (ao i)=some (ptr b p)∧(∀ h',Old h h'→aV (ptr b p) h'=some (.slice ai ni ci,h'))∧av ai ni h=some r∧goodZ ai ni ci:=by
 obtain ⟨a,n,c,rfl,rfl,_,hR⟩:=R
 have hl:=(List.getElem?_eq_some_iff.1 hi).1
 obtain ⟨b,off,s,k,rv,rfl,h2,h3,h4,ai,ni,ci,rfl,h6,_,h8⟩:=hR i hl
 rw [List.getD_eq_getElem?_getD,hi] at h6
 refine ⟨b,off+i,ai,ni,ci,?_,fun h' k'=>aJ (Old.get k' h2) h3 rfl,h6,h8⟩
 unfold bV
 simp only [ao]
 rw [if_pos (by omega),Int.toNat_natCast,Nat.mul_one]
theorem gh.lenL' {h:af} {w:Value} {vals:List (List Nat)} (R:gh h w vals):cK w=some (ao vals.length):=by
 obtain ⟨a,n,c,rfl,rfl,_⟩:=R
 rfl
structure DjEnv (h:af) (w:Value) (y:Nat→Value):Prop where
 y2:y 2=w
 y3:y 3=ptr h.next 0
 y4:y 4=ptr (h.next+1) 0
 y6:y 6=ptr (h.next+2) 0
 y7:y 7=ptr (h.next+3) 0
section
variable {h:af} {F:Nat→Prop} {v:Value} {S:Rf} {D:Dk} {J:Jn} {w:Value} {vals:List (List Nat)} (R:gh h w vals) (hlen:vals.length≤100000)
def nd1Inv (h gq:af) (w:Value) (vals:List (List Nat)) (k:Nat) (y:Nat→Value) (g:af):Prop:=
 ∃ i,i+k=vals.length∧y 11=ao i∧y 10=ao (aP (vals.take i))∧DjEnv h w y∧g=gq∧aP (vals.take i)≤199*i ∧ ∀ r∈vals.take i,r.length≤20000
def nd1Fin (h gq z2:af) (w:Value) (vals:List (List Nat)) (ex:Ex) (y:Nat→Value) (g:af):Prop:=
 DjEnv h w y∧((ex = .ret∧y 8 = .slice none 0 0∧y 9 = .int .i64 3∧g=z2 ∧ ∃ r∈vals,20000<r.length)∨(ex = .exit 0∧y 10=ao (aP vals)∧g=gq ∧ ∀ r∈vals,r.length≤20000))
include R hlen
theorem nd1_round {gq z1 z2:af} (bS:Old h gq) (k6:bD 6 (ptr h.next 0) gq=some (v,gq)) (k8:bD 8 (ptr (h.next+1) 0) gq=some (.agg J.rc.toArray,gq)) (f1:bK 6 (ptr (h.next+2) 0) v gq=some (undef,z1)) (f2:bD 8 (ptr (h.next+1) 0) z1=some (.agg J.rc.toArray,z1)) (f3:bK 8 (ptr (h.next+3) 0) (.agg J.rc.toArray) z1=some (undef,z2)) :
  ∀ k y g,nd1Inv h gq w vals k y g→c8 142 (nd1Inv h gq w vals) (nd1Fin h gq z2 w vals) k (iw CD y g):=by
 rintro k y g ⟨i,hik,bQ,bH,en,rfl,hb,hall⟩
 have hg20 : ∀ n:Nat,bin Try.prog .gtr 3 (ao n) (.int .i64 20000)=some (.bool (decide (20000<n))):=fun n=>gtr3k n 20000
 unfold iw
 simp -implicitDefEqProofs only [bQ,en.y2,R.lenL',gH,ae,aj]
 by_cases hlt:i<vals.length
 ·have hi:vals[i]? = some vals[i]:=List.getElem?_eq_getElem hlt
  have hmem:vals[i]∈vals:=List.getElem_mem hlt
  have htk:=recsTot_take hi
  have htake:vals.take (i+1)=vals.take i ++ [vals[i]]:=by rw [List.take_add_one,hi];rfl
  obtain ⟨b,p,ai,ni,ci,e1,e2,e3,e4⟩:=R.atZ hi
  generalize vals[i]=r at *
  obtain rfl:=(aB e3).1
  have l1:=e2 g bS
  have hll:cK (.slice ai r.length ci)=some (ao r.length):=rfl
  simp -implicitDefEqProofs only [decide_eq_true hlt,e1,l1,hll,hg20,ae,aj]
  by_cases h20:20000<r.length
  ·simp -implicitDefEqProofs only [decide_eq_true h20,en.y3,en.y4,en.y6,en.y7,k6,k8,f1,f2,f3,ck_rc,Bool.and_true,ae]
   exact c8.ret ⟨⟨en.y2,en.y3,en.y4,en.y6,en.y7⟩,.inl ⟨rfl,rfl,rfl,rfl,r,hmem,h20⟩⟩
  ·have hc:=fC (show r.length≤21000 by omega)
   simp -implicitDefEqProofs only [decide_eq_false h20,bH,e1,l1,hll,r16 r.length g (show r.length≤100000000 by omega),ae,aj,gW (show aP (vals.take i)+a8 r.length≤9223372036854775807 by omega),dJ (show i+1≤9223372036854775807 by omega)]
   refine c8.next (k-1) (by omega) ⟨i+1,by omega,rfl,by rw [htk];rfl,⟨en.y2,en.y3,en.y4,en.y6,en.y7⟩,rfl,by omega,?_⟩
   intro r' hr'
   rw [htake] at hr'
   rcases List.mem_append.1 hr' with h1|h1
   ·exact hall r' h1
   ·simp only [List.mem_singleton] at h1
    subst h1;omega
 ·simp -implicitDefEqProofs only [decide_eq_false hlt]
  have:i=vals.length:=by omega
  subst this
  rw [List.take_length] at bH hall
  exact c8.out 0 ⟨⟨en.y2,en.y3,en.y4,en.y6,en.y7⟩,.inr ⟨rfl,bH,rfl,hall⟩⟩
omit R hlen in
theorem Dj.keepP {g g':af} {k8:dV} (x:Dj h g F v S k8) {B:Nat→Prop} (k:Kept g g' B) (hB : ∀ b,B b→h.next+4≤b∧ei g b):Dj h g' F v S k8:=by
 have nb : ∀ b,b<h.next+4 → ¬B b:=fun b hb hc=>by have:=(hB b hc).1;omega
 refine ⟨x.box.aG k (nb _ (by omega)),x.p6.aG k (nb _ (by omega)),k.cB x.j (nb _ (by omega)),x.r6.aG k (nb _ (by omega)),k.cB x.r8 (nb _ (by omega)),?_,x.bS.bM k (fun c hc hb=>nb c (by omega) hb)⟩
 obtain ⟨a,c,rfl,y1,y2,y3⟩:=x.xr
 exact ⟨a,c,rfl,k.ef (fun b hb=>(hB b hb).2) y1,y2,y3⟩
omit R hlen in
theorem i64s_plain (l:List Nat) : ∀ u∈l.map ao,nat8 u=none:=by
 intro u hu
 obtain ⟨n,_,rfl⟩:=List.mem_map.1 hu
 rfl
variable (hF : ∀ b,F b→b<h.next) (ok:JnOk J D) (htot:aP vals≤D.ar) (hall : ∀ r∈vals,r.length≤20000) (hkn:J.known<18446744073709551615)
def rw2Inv (h:af) (F:Nat→Prop) (N:Nat) (w:Value) (vals:List (List Nat)) (J:Jn) (D:Dk) (k:Nat) (y:Nat→Value) (g:af):Prop:=
 ∃ i E ps S v,i+k=vals.length∧y 17=ao i∧y 14=ao (aP (vals.take i))∧y 12=ao J.aM∧y 13 = .int .i64 J.bq∧DjEnv h w y∧cl g N 1 (y 15) ps.length (ps.map ao)∧ps.length=i∧Dj h g F v S J.rc∧h.next+4≤N∧N≤g.next∧g.n0≤h.next ∧
   Eqd E S∧Dok E∧E.n=D.n∧Dk.cj J.aM (J.known+1) (vals.drop i) (aP (vals.take i)) E ps=Dk.cj J.aM (J.known+1) vals 0 D []
def rw2Fin (h:af) (F:Nat→Prop) (N:Nat) (w:Value) (vals:List (List Nat)) (J:Jn) (D:Dk) (ex:Ex) (y:Nat→Value) (g:af):Prop:=
 ∃ S v,DjEnv h w y∧Eqd (Dk.cj J.aM (J.known+1) vals 0 D []).2.1 S∧Dok (Dk.cj J.aM (J.known+1) vals 0 D []).2.1∧(Dk.cj J.aM (J.known+1) vals 0 D []).2.1.n=D.n ∧
   ((ex = .ret∧(Dk.cj J.aM (J.known+1) vals 0 D []).1≠0∧y 8 = .slice none 0 0∧y 9 = .int .i64 (Dk.cj J.aM (J.known+1) vals 0 D []).1∧bD 6 (ptr (h.next+2) 0) g=some (v,g)∧bD 8 (ptr (h.next+3) 0) g=some (.agg J.rc.toArray,g)∧bT g F v S∧Old h g) ∨
    (ex = .exit 2∧(Dk.cj J.aM (J.known+1) vals 0 D []).1=0∧y 14=ao (aP vals)∧y 12=ao J.aM∧y 13 = .int .i64 J.bq∧Dj h g F v S J.rc∧h.next+4≤N∧N≤g.next ∧
     cl g N 1 (y 15) (Dk.cj J.aM (J.known+1) vals 0 D []).2.2.2.length ((Dk.cj J.aM (J.known+1) vals 0 D []).2.2.2.map ao)))
include hF ok htot hall hkn
omit ok in
theorem rw2_round {N:Nat} : ∀ k y g,rw2Inv h F N w vals J D k y g→c8 142 (rw2Inv h F N w vals J D) (rw2Fin h F N w vals J D) k (eU CD y g):=by
 rintro k y g ⟨i,E,ps,S,v,hik,y17,y14,y12,y13,en,own,hps,dj,hN4,hN,hn0,q,dok,hEn,hrw⟩
 have har:D.ar=(D.n-2)/2:=rfl
 have hEar:E.ar=D.ar:=by unfold Dk.ar;rw [hEn]
 have hsm:=dok.small
 unfold eU
 simp -implicitDefEqProofs only [y17,en.y2,R.lenL',gH,ae,aj]
 by_cases hlt:i<vals.length
 ·obtain ⟨k',rfl⟩ : ∃ k',k=k'+1:=⟨k-1,by omega⟩
  have hi:vals[i]? = some vals[i]:=List.getElem?_eq_getElem hlt
  have hmem:vals[i]∈vals:=List.getElem_mem hlt
  have htk:=recsTot_take hi
  have htl:=recsTot_le vals (i+1)
  have hdrop:vals.drop i=vals[i]::vals.drop (i+1):=(List.getElem_cons_drop hlt).symm
  rw [hdrop] at hrw
  have hr20:=hall vals[i] hmem
  obtain ⟨b,p,ai,ni,ci,e1,e2,e3,e4⟩:=R.atZ hi
  generalize vals[i]=r at *
  obtain rfl:=(aB e3).1
  have l1:=e2 g dj.bS
  have hll:cK (.slice ai r.length ci)=some (ao r.length):=rfl
  have m4:aV (ptr (h.next+1) 4) g=some (.int .u64 (J.known:Int),g):=aJ dj.j rfl rfl
  have hadd:bin Try.prog .add 58 (.int .u64 (J.known:Int)) (.int .u64 1)=some (.int .u64 ((J.known+1:Nat):Int)):=by
   rw [dM,eE (by omega) (by omega)]
   exact congrArg (fun z=>some (Value.int .u64 z)) (by omega)
  have hrw2:(if (E.cd J.aM (J.known+1) (aP (vals.take i)) r).1=0 then Dk.cj J.aM (J.known+1) (vals.drop (i+1)) (aP (vals.take i)+a8 r.length) (E.cd J.aM (J.known+1) (aP (vals.take i)) r).2 (ps ++ [aP (vals.take i)]) else ((E.cd J.aM (J.known+1) (aP (vals.take i)) r).1,(E.cd J.aM (J.known+1) (aP (vals.take i)) r).2,aP (vals.take i),ps))=Dk.cj J.aM (J.known+1) vals 0 D []:=hrw
  obtain ⟨v',S',g1,e69,xr1,q1,d1,n1,o1⟩:=r69 (h0:=g) (F:=F) (D:=E) (aq:=J.aM) (gen:=J.known+1) (at_:=aP (vals.take i)) (c:=ci) (fun b hb=>Nat.lt_of_lt_of_le (hF b hb) dj.bS.next) J.newArea_le (by omega) (Old.bytes dj.bS e3) e4 (by omega) (by omega) dj.xr q dok
  obtain ⟨g2,s2,dj2,k12⟩:=dj.store o1 xr1
  generalize hW:E.cd J.aM (J.known+1) (aP (vals.take i)) r=W at *
  have hx0 : ∀ a b:Value,aA (.tuple #[a,b]) 0=some a:=fun _ _=>rfl
  have hx1 : ∀ a b:Value,aA (.tuple #[a,b]) 1=some b:=fun _ _=>rfl
  simp -implicitDefEqProofs only [decide_eq_true hlt,en.y3,en.y4,dj.box.ld,y12,ax,Nat.zero_add,m4,hadd,y14,e1,l1,e69,hx0,hx1,s2,ae,aj,cW]
  have hdj2:=dj2.bS.n0
  by_cases hz:W.1=0
  ·rw [if_pos hz] at hrw2
   have own2:cl g2 N 1 (y 15) ps.length (ps.map ao):=(own.aG o1 (fun _ _ h=>h)).aG k12 (fun b hb e=>by have:=own.base hb;omega)
   have n12:=o1.next
   have n23:=k12.next
   have oA:Old g2 (g2.alloc [ao (aP (vals.take i))]):=Kept.alloc _ _ _
   have gA:(g2.alloc [ao (aP (vals.take i))]).get g2.next=some [ao (aP (vals.take i))]:=by rw [af.aD,if_pos rfl]
   have hbs:dY 1 (.int .i64 0) 1 [(0,ao (aP (vals.take i)))] g2=some (.slice (some ⟨g2.next,0,none⟩) 1 1,g2.alloc [ao (aP (vals.take i))]):=rfl
   have own3:=own2.aG oA (fun _ _ h=>h)
   have dj3:=dj2.aG oA
   have nA:=oA.next
   have n0A:=oA.n0
   generalize hgA:g2.alloc [ao (aP (vals.take i))]=g3 at *
   have hfA:bY 1 1 (.slice (some ⟨g2.next,0,none⟩) 1 1) g3=some [ao (aP (vals.take i))]:=by
    simp only [bY,gA]
    rfl
   have hn0':g3.n0≤h.next:=by rw [n0A,hdj2];exact h.aF
   obtain ⟨u,g4,q1',q2',q3',_⟩:=append_own (by_:=8) (x := .slice (some ⟨g2.next,0,none⟩) 1 1) (m:=1) own3 (by omega) (by omega) (by decide) rfl hfA rfl rfl rfl (by omega) (by omega)
   have dj4:=dj3.keepP q3' (fun b hb=>⟨by have:=own3.base hb.1;omega,⟨_,hb.2,i64s_plain ps⟩⟩)
   have n34:=q3'.next
   have hcl:=fC (show r.length≤21000 by omega)
   have hmap:(ps ++ [aP (vals.take i)]).map ao=ps.map ao ++ [ao (aP (vals.take i))]:=by simp
   have hl1:=e2 g4 dj4.bS
   simp -implicitDefEqProofs only [hz,bne_self_eq_false,ae,hbs,q1',e1,hl1,hll,aj,r16 r.length g4 (show r.length≤100000000 by omega),gW (show aP (vals.take i)+a8 r.length≤9223372036854775807 by omega),dJ (show i+1≤9223372036854775807 by omega)]
   refine c8.next k' (by omega) ⟨i+1,W.2,ps ++ [aP (vals.take i)],S',v',by omega,rfl,by rw [htk];rfl,y12,y13,⟨en.y2,en.y3,en.y4,en.y6,en.y7⟩,?_,by rw [List.length_append,hps];rfl,dj4,hN4,by omega,by rw [q3'.n0];exact hn0',q1,d1,n1.trans hEn,?_⟩
   ·rw [hmap,List.length_append];exact q2'
   ·rw [htk];exact hrw2
  ·rw [if_neg hz] at hrw2
   have hne:(W.1 != 0)=true:=by simpa using hz
   obtain ⟨k6,k8,z1,z2,f1,f2,f3,f4,f5,f6,f7,_⟩:=dj2.fin rfl (gM J) (fM J)
   simp -implicitDefEqProofs only [hne,en.y6,en.y7,k6,k8,f1,f2,f3,ck_rc,Bool.and_true,ae]
   refine c8.ret ?_
   unfold rw2Fin
   rw [←hrw2]
   exact ⟨S',v',⟨en.y2,en.y3,en.y4,en.y6,en.y7⟩,q1,d1,n1.trans hEn,.inl ⟨rfl,hz,rfl,rfl,f4,f5,f6,f7⟩⟩
 ·simp -implicitDefEqProofs only [decide_eq_false hlt]
  have:i=vals.length:=by omega
  have hk0:k=0:=by omega
  subst hk0
  rw [this,List.drop_length,List.take_length] at hrw
  rw [this,List.take_length] at y14
  have hrw:(0,E,aP vals,ps)=Dk.cj J.aM (J.known+1) vals 0 D []:=hrw
  refine c8.out 2 ?_
  unfold rw2Fin
  rw [←hrw]
  exact ⟨S,v,⟨en.y2,en.y3,en.y4,en.y6,en.y7⟩,q,dok,hEn,.inr ⟨rfl,rfl,y14,y12,y13,dj,hN4,hN,own⟩⟩
def Rw2 (h:af) (F:Nat→Prop) (J:Jn) (D:Dk) (vals:List (List Nat)) (o:Out):Prop:=
 ∃ v' S' u h',o=some (.tuple #[v',.agg (J.rewrite D vals).2.2.1.rc.toArray,u,.int .i64 (J.rewrite D vals).1],h')∧bT h' F v' S'∧Eqd (J.rewrite D vals).2.1 S'∧Old h h'∧cl h' h.next 1 u (J.rewrite D vals).2.2.2.length ((J.rewrite D vals).2.2.2.map ao)
omit R hlen hF ok htot hall hkn in
theorem rw2_res {z2:af} {y:Nat→Value} {J':Jn} {u:Value} {e:Int} (en6:y 6=ptr (h.next+2) 0) (en7:y 7=ptr (h.next+3) 0) (y8:y 8=u) (y9:y 9 = .int .i64 e) (f4:bD 6 (ptr (h.next+2) 0) z2=some (v,z2)) (f5:bD 8 (ptr (h.next+3) 0) z2=some (.agg J'.rc.toArray,z2)) :
  al Try.prog Try.f40.results.toList (aZ 142 y) z2=some (.tuple #[v,.agg J'.rc.toArray,u,.int .i64 e],z2):=by
 have:=res_c4 results40 (n:=142) (by decide) (by decide) (by decide) (by decide) ld63 ld70 y (h:=z2) (v:=v) (w := .agg J'.rc.toArray) (by rw [en6];exact f4) (by rw [en7];exact f5)
 rw [y8,y9] at this
 exact this
omit R hlen ok in
set_option maxRecDepth 100000 in
theorem rw2_end (hl:J.live D=true) {N:Nat} {y:Nat→Value} {g:af} (en:DjEnv h w y) (q:Eqd (Dk.cj J.aM (J.known+1) vals 0 D []).2.1 S) (dok:Dok (Dk.cj J.aM (J.known+1) vals 0 D []).2.1)
  (hz:(Dk.cj J.aM (J.known+1) vals 0 D []).1=0) (y14:y 14=ao (aP vals)) (y12:y 12=ao J.aM) (y13:y 13 = .int .i64 J.bq) (dj:Dj h g F v S J.rc) (hN4:h.next+4≤N) (hN:N≤g.next)
  (own:cl g N 1 (y 15) (Dk.cj J.aM (J.known+1) vals 0 D []).2.2.2.length ((Dk.cj J.aM (J.known+1) vals 0 D []).2.2.2.map ao)):Rw2 h F J D vals (t40k40_22 CD y g):=by
 have hany:(vals.any fun r=>decide (20000<r.length))=false:=by
  rw [List.any_eq_false]
  intro r hr
  have:=hall r hr
  simp;omega
 have hful : ¬(D.ar<aP vals∨J.known=18446744073709551615):=by omega
 have hR:J.rewrite D vals=if ((Dk.cj J.aM (J.known+1) vals 0 D []).2.1.write J.bq (dr (J.known+1) J.aM)).1=0 then
   (0,((Dk.cj J.aM (J.known+1) vals 0 D []).2.1.write J.bq (dr (J.known+1) J.aM)).2,
     { bw:=J.bw,slot:=J.bq,aq:=J.aM,gen:=J.known+1,known:=J.known+1,ready:=true,fin:=aP vals },(Dk.cj J.aM (J.known+1) vals 0 D []).2.2.2)
  else (((Dk.cj J.aM (J.known+1) vals 0 D []).2.1.write J.bq (dr (J.known+1) J.aM)).1,((Dk.cj J.aM (J.known+1) vals 0 D []).2.1.write J.bq (dr (J.known+1) J.aM)).2,J,[]):=by
  unfold Jn.rewrite
  rw [hl,if_neg (by decide),hany,if_neg (by decide),if_neg hful,if_pos hz]
 unfold Rw2
 rw [hR]
 generalize hWW:Dk.cj J.aM (J.known+1) vals 0 D []=WW at *
 have m4 : ∀ {z:af},z.get (h.next+1)=some J.rc→aV (ptr (h.next+1) 4) z=some (.int .u64 (J.known:Int),z):=fun e=>aJ e rfl rfl
 have hadd:bin Try.prog .add 58 (.int .u64 (J.known:Int)) (.int .u64 1)=some (.int .u64 ((J.known+1:Nat):Int)):=by
  rw [dM,eE (by omega) (by omega)]
  exact congrArg (fun z=>some (Value.int .u64 z)) (by omega)
 obtain ⟨ub,g1,e71,ob,o1⟩:=r71 g (gen:=J.known+1) (aq:=J.aM) (by omega) J.newArea_le
 obtain ⟨ab,cb,rfl,t1,_,_,_⟩:=ob.bytes
 have old1:=dj.bS.trans o1
 have hil:S.aU.length≤1000000:=by rw [q.aU,dok.aU];have:=dok.small;omega
 obtain ⟨v',g2,e70,xr2,o2⟩:=r70 (cb:=cb) (dj.xr.bS o1) (fun b hb=>Nat.lt_of_lt_of_le (hF b hb) old1.next) hil q.kp J.bq t1
 obtain ⟨qe,qq⟩:=q.write dok.aU dok.after J.bq (dr (J.known+1) J.aM)
 rw [qe] at e70
 generalize hS':(S.write J.bq (dr (J.known+1) J.aM)).2=S' at *
 obtain ⟨g3,s3,dj3,k3⟩:=dj.store (o1.trans o2) xr2
 have l61:=(dj.aG o1).box.ld
 have own3:=(own.aG (o1.trans o2) (fun _ _ h=>h)).aG k3 (fun b hb e=>by have:=own.base hb;omega)
 have hx0 : ∀ a b:Value,aA (.tuple #[a,b]) 0=some a:=fun _ _=>rfl
 have hx1 : ∀ a b:Value,aA (.tuple #[a,b]) 1=some b:=fun _ _=>rfl
 unfold t40k40_22
 simp -implicitDefEqProofs only [en.y3,en.y4,dj.box.ld,y12,y13,ax,Nat.zero_add,m4 dj.j,hadd,e71,e70,hx0,hx1,s3,l61,ck_rf dj.xr,Bool.and_true,ae,aj,cW]
 generalize hW:WW.2.1.write J.bq (dr (J.known+1) J.aM)=W at *
 have low : ∀ {z:af} {n:Nat} {u:Value} {cs:List Value},cl z N 1 u n cs→cl z h.next 1 u n cs:=by
  intro z n u cs o
  refine ⟨o.1,o.2.1,o.2.2.1,?_⟩
  rcases o.2.2.2 with h|⟨b,s,j1,j2,j3⟩
  ·exact .inl h
  ·exact .inr ⟨b,s,j1,by omega,j3⟩
 by_cases hw:W.1=0
 ·rw [if_pos hw]
  obtain ⟨g4,s4,dj4,k4⟩:=dj3.setJ (i:=1) (u := .int .i64 J.bq) (k9:=({ J with slot:=J.bq }:Jn).rc) (rc_plain _) (by show 1<8;decide) rfl rfl rfl
  obtain ⟨g5,s5,dj5,k5⟩:=dj4.setJ (i:=3) (u:=ao J.aM) (k9:=({ J with slot:=J.bq,aq:=J.aM }:Jn).rc) (rc_plain _) (by show 3<8;decide) rfl rfl rfl
  obtain ⟨g6,s6,dj6,k6⟩:=dj5.setJ (i:=2) (u := .int .u64 ((J.known+1:Nat):Int)) (k9:=({ J with slot:=J.bq,aq:=J.aM,gen:=J.known+1 }:Jn).rc) (rc_plain _) (by show 2<8;decide) rfl rfl rfl
  obtain ⟨g7,s7,dj7,k7⟩:=dj6.setJ (i:=4) (u := .int .u64 ((J.known+1:Nat):Int)) (k9:=({ J with slot:=J.bq,aq:=J.aM,gen:=J.known+1,known:=J.known+1 }:Jn).rc) (rc_plain _) (by show 4<8;decide) rfl rfl rfl
  obtain ⟨g8,s8,dj8,k8⟩:=dj7.setJ (i:=5) (u := .bool true) (k9:=({ J with slot:=J.bq,aq:=J.aM,gen:=J.known+1,known:=J.known+1,ready:=true }:Jn).rc) (rc_plain _) (by show 5<8;decide) rfl rfl rfl
  obtain ⟨g9,s9,dj9,k9⟩:=dj8.setJ (i:=6) (u:=ao (aP vals)) (k9:=({ bw:=J.bw,slot:=J.bq,aq:=J.aM,gen:=J.known+1,known:=J.known+1,ready:=true,fin:=aP vals }:Jn).rc) (rc_plain _) (by show 6<8;decide) rfl rfl rfl
  obtain ⟨p6,p8,z1,z2,f1,f2,f3,f4,f5,f6,f7,f8⟩:=dj9.fin rfl (gM _) (fM _)
  have kk:Kept g3 g9 (fun c=>c=h.next+1):=((((k4.bM k5 (fun _ _ e=>e)).bM k6 (fun _ _ e=>e)).bM k7 (fun _ _ e=>e)).bM k8 (fun _ _ e=>e)).bM k9 (fun _ _ e=>e)
  have own9:=(own3.aG kk (fun b hb e=>by have:=own3.base hb;omega)).aG f8 (fun b hb e=>by have:=own3.base hb;omega)
  simp -implicitDefEqProofs only [hw,bne_self_eq_false,ae,ax,Nat.zero_add,m4 dj3.j,hadd,aj,s4,s5,s6,s7,s8,s9,y14,p6,p8,en.y6,en.y7,f1,f2,f3,ck_rc,Bool.and_true]
  exact ⟨v',S',y 15,z2,rw2_res (h:=h) (e:=0) en.y6 en.y7 rfl rfl f4 f5,f6,qq,f7,low own9⟩
 ·rw [if_neg hw]
  have hne:(W.1 != 0)=true:=by simpa using hw
  obtain ⟨p6,p8,z1,z2,f1,f2,f3,f4,f5,f6,f7,_⟩:=dj3.fin rfl (gM J) (fM J)
  simp -implicitDefEqProofs only [hne,p6,p8,en.y6,en.y7,f1,f2,f3,ck_rc,Bool.and_true,ae]
  exact ⟨v',S',.slice none 0 0,z2,rw2_res (h:=h) en.y6 en.y7 rfl rfl f4 f5,f6,qq,f7,cl.nil _ _ _⟩
end
end Go.Proofs.Ytcmfgmhadeeieaa

namespace Go.Proofs.Ytcmfgmhadeeieaa
open Go Go.Abs
theorem any_false {vals:List (List Nat)} (h : ∀ r∈vals,r.length≤20000):(vals.any fun r=>decide (20000<r.length))=false:=by
 rw [List.any_eq_false]
 intro r hr
 have:=h r hr
 simp;omega
theorem r40_miss {h:af} {F:Nat→Prop} {v:Value} {S:Rf} (x:bT h F v S) (w:Value) : ∃ h',CD 40 [v,.agg cT.toArray,w] h=some (.tuple #[v,.agg cT.toArray,.slice none 0 0,.int .i64 1],h')∧bT h' F v S∧Old h h':=by
 obtain ⟨g,g2,g3,g4,b1,b2,b3,b4,dj⟩:=dj4 x (k8:=cT) rfl
 have m7:aV (ptr (h.next+1) 7) g4=some (.bool true,g4):=aJ dj.j rfl rfl
 obtain ⟨l6,l8,q1,q2,f1,f2,f3,f4,f5,f6,f7,_⟩:=dj.fin rfl rfl rfl
 refine ⟨q2,aK is40 rfl ((t40_eq _ _ _ _ _).trans ?_),f6,f7⟩
 unfold t40
 simp -implicitDefEqProofs only [b1,b2,b3,b4,ae,ax,Nat.zero_add,aj,m7,l6,l8,f1,f2,f3,ck_miss,Bool.and_true]
 exact res_c4 (rs:=Try.f40.results.toList) (n:=142) results40 (by decide) (by decide) (by decide) (by decide) ld63 ld70 _ f4 f5
set_option maxRecDepth 100000 in
theorem r40 {h:af} {F:Nat→Prop} {v:Value} {S:Rf} {D:Dk} {J:Jn} {w:Value} {vals:List (List Nat)} (x:bT h F v S) (hF : ∀ b,F b→b<h.next) (q:Eqd D S) (dok:Dok D) (ok:JnOk J D) (R:gh h w vals) (hlen:vals.length≤100000) :
  Rw2 h F J D vals (CD 40 [v,.agg J.rc.toArray,w] h):=by
 have har:D.ar=(D.n-2)/2:=rfl
 have hsm:=dok.small
 obtain ⟨g,g2,g3,g4,b1,b2,b3,b4,dj⟩:=dj4 x (gM J)
 have m7:aV (ptr (h.next+1) 7) g4=some (.bool false,g4):=aJ dj.j rfl rfl
 have l6:=dj.box.ld
 have l8:=cz (n:=8) dj.j rfl (fM J)
 obtain ⟨q1,e68,o1⟩:=r68 dj.xr q J
 have dj1:=dj.aG o1
 suffices key:Rw2 h F J D vals (t40 CD v (.agg J.rc.toArray) w h) by
  obtain ⟨v',S',u,h',e,r⟩:=key
  exact ⟨v',S',u,h',aK is40 rfl ((t40_eq _ _ _ _ _).trans e),r⟩
 obtain ⟨k6,k8,z1,z2,f1,f2,f3,f4,f5,f6,f7,_⟩:=dj1.fin rfl (gM J) (fM J)
 unfold t40
 simp -implicitDefEqProofs only [b1,b2,b3,b4,ae,ax,Nat.zero_add,aj,m7,l6,l8,e68,bR]
 cases hL:J.live D with
 |false=>
  have hR:J.rewrite D vals=(9,D,J,[]):=by unfold Jn.rewrite;rw [hL,if_pos rfl]
  unfold Rw2
  rw [hR]
  simp -implicitDefEqProofs only [Bool.not_false,ae,k6,k8,f1,f2,f3,ck_rc,Bool.and_true]
  exact ⟨v,S,.slice none 0 0,z2,rw2_res (h:=h) (J':=J) (e:=9) rfl rfl rfl rfl f4 f5,f6,q,f7,cl.nil _ _ _⟩
 |true=>
  simp -implicitDefEqProofs only [Bool.not_true,ae]
  refine cy (Q:=fun o=>Rw2 h F J D vals o) (ct (t40l40_1111010_eq CD) (nd1_round (J:=J) R hlen dj1.bS k6 k8 f1 f2 f3) vals.length (by have:rounds=18446744073709551616:=rfl;omega)
   ⟨0,Nat.zero_add _,rfl,rfl,⟨rfl,rfl,rfl,rfl,rfl⟩,rfl,Nat.le_refl _,by intro r hr;rw [List.take_zero] at hr;cases hr⟩) ?_
  rintro ex y g ⟨en,⟨rfl,y8,y9,rfl,r,hr,h20⟩|⟨rfl,bH,rfl,hall⟩⟩
  ·have hany:(vals.any fun r=>decide (20000<r.length))=true:=by
    rw [List.any_eq_true]
    exact ⟨r,hr,by simpa using h20⟩
   have hR:J.rewrite D vals=(3,D,J,[]):=by unfold Jn.rewrite;rw [hL,if_neg (by decide),if_pos hany]
   unfold Rw2
   rw [hR,endL_ret]
   exact ⟨v,S,.slice none 0 0,g,rw2_res (h:=h) (J':=J) en.y6 en.y7 y8 y9 f4 f5,f6,q,f7,cl.nil _ _ _⟩
  ·obtain ⟨q2,e46,o2⟩:=r46 dj1.xr q.aU dok.aU dok.four hsm
   have dj2:=dj1.aG o2
   have m4:aV (ptr (h.next+1) 4) q2=some (.int .u64 (J.known:Int),q2):=aJ dj2.j rfl rfl
   obtain ⟨k6,k8,z1,z2,f1,f2,f3,f4,f5,f6,f7,_⟩:=dj2.fin rfl (gM J) (fM J)
   have hR8:D.ar<aP vals∨J.known=18446744073709551615→J.rewrite D vals=(8,D,J,[]):=fun hc=>by
    unfold Jn.rewrite
    rw [hL,if_neg (by decide),any_false hall,if_neg (by decide),if_pos hc]
   simp -implicitDefEqProofs only [bG,b40_exit,t40k40_10_eq]
   unfold t40k40_10
   simp -implicitDefEqProofs only [bH,en.y3,en.y4,en.y6,en.y7,dj1.box.ld,e46,gtr3,ae,aj,az]
   by_cases c1:D.ar<aP vals
   ·unfold Rw2
    rw [hR8 (.inl c1)]
    simp -implicitDefEqProofs only [decide_eq_true c1,sf,aE,ae,if_true,k6,k8,f1,f2,f3,ck_rc,Bool.and_true]
    exact ⟨v,S,.slice none 0 0,z2,rw2_res (h:=h) (J':=J) (e:=8) en.y6 en.y7 rfl rfl f4 f5,f6,q,f7,cl.nil _ _ _⟩
   have heq:bin Try.prog .eql 58 (.int .u64 (J.known:Int)) (.int .u64 18446744073709551615)=some (.bool (decide (J.known=18446744073709551615))):=by
    rw [bZ]
    congr 2
    by_cases hk:J.known=18446744073709551615
    ·rw [hk];rfl
    ·rw [decide_eq_false hk]
     simp;omega
   by_cases c2:J.known=18446744073709551615
   ·unfold Rw2
    rw [hR8 (.inr c2)]
    simp -implicitDefEqProofs only [decide_eq_false c1,beq_self_eq_true,ay,ax,Nat.zero_add,m4,heq,decide_eq_true c2,ae,aj,Bool.false_eq_true,if_false,k6,k8,f1,f2,f3,ck_rc,Bool.and_true]
    exact ⟨v,S,.slice none 0 0,z2,rw2_res (h:=h) (J':=J) (e:=8) en.y6 en.y7 rfl rfl f4 f5,f6,q,f7,cl.nil _ _ _⟩
   have hkn:J.known<18446744073709551615:=by have:=ok.known;omega
   have hlow:h.next+4≤q2.next:=by
    have:=q2.aS dj2.r8
    omega
   have oA:Old q2 (q2.alloc []):=Kept.alloc _ _ _
   have nA:(q2.alloc []).next=q2.next+1:=af.aW ..
   have hbs:dY 1 (.int .i64 0) 0 [] q2=some (.slice (some ⟨q2.next,0,none⟩) 0 0,q2.alloc []):=rfl
   have dj3:=dj2.aG oA
   have L2 : ∀ y':Nat→Value,DjEnv h w y'→y' 12=ao J.aM→y' 13 = .int .i64 J.bq→y' 14=ao 0→y' 17=ao 0→y' 15 = .slice (some ⟨q2.next,0,none⟩) 0 0 →
     Rw2 h F J D vals (dI (iter (aL Try.prog CD (partOf Try.f40 [1,1,1,1,1,1,1,1,1,1,0,1,0,0])) rounds (aZ 142 y') (q2.alloc [])) (al Try.prog Try.f40.results.toList) (b40_24 CD)):=by
    intro y' en' y12 y13 y14 y17 y15
    refine cy (Q:=fun o=>Rw2 h F J D vals o) (ct (t40l40_1111111111010_eq CD) (rw2_round (F:=F) (D:=D) (J:=J) R hlen hF (by omega) hall hkn (N:=q2.next)) vals.length (by have:rounds=18446744073709551616:=rfl;omega)
     ⟨0,D,[],S,v,Nat.zero_add _,y17,y14,y12,y13,en',by rw [y15];exact cl.empty _ (Nat.le_refl _),rfl,dj3,hlow,by omega,by rw [dj3.bS.n0];exact h.aF,q,dok,rfl,rfl⟩) ?_
    rintro ex z g ⟨S',v',ez,qz,dz,nz,⟨rfl,hne,z8,z9,c4,c5,c6,c7⟩|⟨rfl,hz,z14,z12,z13,djz,h4z,hNz,own⟩⟩
    ·have hful : ¬(D.ar<aP vals∨J.known=18446744073709551615):=by omega
     have hR:J.rewrite D vals=((Dk.cj J.aM (J.known+1) vals 0 D []).1,(Dk.cj J.aM (J.known+1) vals 0 D []).2.1,J,[]):=by
      unfold Jn.rewrite
      rw [hL,if_neg (by decide),any_false hall,if_neg (by decide),if_neg hful,if_neg hne]
     unfold Rw2
     rw [hR,endL_ret]
     exact ⟨v',S',.slice none 0 0,g,rw2_res (h:=h) (J':=J) ez.y6 ez.y7 z8 z9 c4 c5,c6,qz,c7,cl.nil _ _ _⟩
    ·simp -implicitDefEqProofs only [bG,b40_exit2,t40k40_22_eq]
     exact rw2_end hF (by omega) hall hkn hL ez qz dz hz z14 z12 z13 djz h4z hNz own
   have m1:aV (ptr (h.next+1) 1) q2=some (.int .i64 J.slot,q2):=aJ dj2.j rfl rfl
   have m3:aV (ptr (h.next+1) 3) q2=some (ao J.aq,q2):=aJ dj2.j rfl rfl
   have hgeq:bin Try.prog .geq 3 (.int .i64 J.slot) (.int .i64 0)=some (.bool (decide (J.slot≥0))):=c9 ..
   simp -implicitDefEqProofs only [decide_eq_false c1,beq_self_eq_true,ay,ax,Nat.zero_add,m4,heq,decide_eq_false c2,ae,aj,Bool.false_eq_true,if_false,m1,hgeq]
   by_cases c3:J.slot≥0
   ·have hsa:bin Try.prog .sub 3 (.int .i64 1) (ao J.aq)=some (ao (1-J.aq)):=sub3 (a:=1) ok.aq (by omega)
    have hss:bin Try.prog .sub 3 (.int .i64 1) (.int .i64 J.slot)=some (.int .i64 (1-J.slot)):=by
     rw [gU,bE (by have:=ok.slot;omega) (by have:=ok.slot;omega)]
    have ha:J.aM=1-J.aq:=by unfold Jn.aM;rw [if_pos (by omega)]
    have hs:J.bq=1-J.slot:=by unfold Jn.bq;rw [if_pos (by omega)]
    simp -implicitDefEqProofs only [decide_eq_true c3,ax,Nat.zero_add,m3,m1,hsa,hss,hbs,ae,aj]
    exact L2 _ ⟨en.y2,en.y3,en.y4,en.y6,en.y7⟩ (by rw [ha];rfl) (by rw [hs];rfl) rfl rfl rfl
   ·have ha:J.aM=0:=by unfold Jn.aM;rw [if_neg (by omega)]
    have hs:J.bq=0:=by unfold Jn.bq;rw [if_neg (by omega)]
    simp -implicitDefEqProofs only [decide_eq_false c3,hbs,ae,aj]
    exact L2 _ ⟨en.y2,en.y3,en.y4,en.y6,en.y7⟩ (by rw [ha];rfl) (by rw [hs];rfl) rfl rfl rfl
end Go.Proofs.Ytcmfgmhadeeieaa

namespace Go.Proofs.Ytcmfgmhadeeieaa
open Go Go.Abs
theorem is44:ch Try.prog 44 Try.f44:=⟨by kernel_rfl,by kernel_rfl,by kernel_rfl,by kernel_rfl⟩
theorem b44_exit (C:ak) (e:Env) (h:af):b44_6 C 0 e h=k44_4 C e h:=rfl
theorem gR (l:List Nat):(!((iz l).toList==(iz l).toList))=false:=by simp
theorem cl.at2 {h:af} {N:Nat} {v:Value} {len:Nat} {cells:List Value} (o:cl h N 2 v len cells) {i:Nat} (hi:i<len) : ∃ b,bV 2 v (ao i)=some (ptr b (i*2))∧h.get b=some cells:=by
 obtain ⟨_,_,_,⟨rfl,h4⟩|⟨b,s,rfl,_,⟨_,h4⟩|⟨rfl,h5⟩⟩⟩:=o
 ·omega
 ·omega
 ·refine ⟨b,?_,h5⟩
  unfold bV
  simp only [ao]
  rw [if_pos (by omega),Int.toNat_natCast,Nat.zero_add]
theorem cl.cK {h:af} {N size:Nat} {v:Value} {len:Nat} {cells:List Value} (o:cl h N size v len cells):cK v=some (ao len):=by
 obtain ⟨_,_,_,⟨rfl,h4⟩|⟨b,s,rfl,_⟩⟩:=o
 ·subst h4;rfl
 ·rfl
theorem r44 {h:af} {N M:Nat} {v w:Value} {c1 c2:List Value} {cS:List (Nat×List Nat)} (o1:cl h N 2 v cS.length c1) (E1:dx h N c1 cS) (o2:cl h M 2 w cS.length c2) (E2:dx h M c2 cS) (hlen:cS.length≤100000) :
  CD 44 [v,w] h=some (.bool true,h):=by
 refine aK is44 rfl ((t44_eq _ _ _ _).trans ?_)
 unfold t44
 have hb:(cS.length==cS.length)=true:=beq_self_eq_true _
 simp -implicitDefEqProofs only [ae,o1.cK,o2.cK,aj,bin3n,hb,Bool.not_true]
 refine cy (n:=43) (fin:=fun ex _ g=>ex = .exit 0∧g=h) (Q:=fun o:Out=>o=some (Value.bool true,h))
  (ct (t44l44_11010_eq CD) (Inv:=fun k y g => ∃ i,i+k=cS.length∧y 5=ao i∧y 0=v∧y 1=w∧g=h) ?_ cS.length (by have:rounds=18446744073709551616:=rfl;omega) ⟨0,Nat.zero_add _,rfl,rfl,rfl,rfl⟩) ?_
 ·rintro k y g ⟨i,hk,y5,y0,y1,rfl⟩
  unfold t44l44_11010
  simp -implicitDefEqProofs only [y5,y0,o1.cK,ae,aj,gH]
  by_cases hi:i<cS.length
  ·obtain ⟨b,i1,g1⟩:=o1.at2 hi
   obtain ⟨b',i2,g2⟩:=o2.at2 hi
   have he:cS[i]? = some cS[i]:=List.getElem?_eq_getElem hi
   obtain ⟨p1,a,n,c,p2,p3,_,_⟩:=E1.2 i _ he
   obtain ⟨q1,a',n',c',q2,q3,_,_⟩:=E2.2 i _ he
   rw [Nat.mul_comm] at p1 p2 q1 q2
   generalize cS[i]=e at *
   have l1:aV (ptr b (i*2)) g=some (ao e.1,g):=aJ g1 p1 rfl
   have l2:aV (ptr b (i*2+1)) g=some (.slice a n c,g):=aJ g1 p2 rfl
   have l3:aV (ptr b' (i*2)) g=some (ao e.1,g):=aJ g2 q1 rfl
   have l4:aV (ptr b' (i*2+1)) g=some (.slice a' n' c',g):=aJ g2 q2 rfl
   have he1:(e.1==e.1)=true:=beq_self_eq_true _
   simp -implicitDefEqProofs only [decide_eq_true hi,i1,i2,y1,ax,Nat.add_zero,l1,l2,l3,l4,ae,aj,bin3n,he1,Bool.not_true,az,beq_self_eq_true,ay,eP p3,eP q3,dL,gR,Bool.false_eq_true,if_false,dJ (show i+1≤9223372036854775807 by omega)]
   exact c8.next (k-1) (by omega) ⟨i+1,by omega,rfl,y0,y1,rfl⟩
  ·simp -implicitDefEqProofs only [decide_eq_false hi]
   exact c8.out 0 ⟨rfl,rfl⟩
 ·rintro ex z g ⟨rfl,rfl⟩
  simp -implicitDefEqProofs only [bG,b44_exit,t44k44_4_eq]
  unfold t44k44_4
  rw [ae]
def Rf.of (l:List Nat):Rf:=⟨l,false,false,0,0,0⟩
end Go.Proofs.Ytcmfgmhadeeieaa

namespace Go.Proofs.Ytcmfgmhadeeieaa
open Go Go.Abs
theorem is49:ch Try.prog 49 Try.f49:=⟨by kernel_rfl,by kernel_rfl,by kernel_rfl,by kernel_rfl⟩
theorem X20:XX 20=s20:=rfl
theorem X48:XX 48=s48:=rfl
theorem X36:XX 36=s36:=rfl
theorem cells_plain {h:af} {b:Nat} {S:Rf} {a:Option Addr} {n c:Nat} (g:h.get b=some (S.cells (.slice a n c))):ei h b:=⟨_,g,by
 intro v hv
 simp only [Rf.cells,List.mem_cons,List.not_mem_nil,or_false] at hv
 rcases hv with rfl|rfl|rfl|rfl|rfl|rfl<;>rfl⟩
theorem zero6_plain {h:af} {b:Nat} (g:h.get b=some bC):ei h b:=⟨_,g,by
 intro v hv
 simp only [bC,List.mem_cons,List.not_mem_nil,or_false] at hv
 rcases hv with rfl|rfl|rfl|rfl|rfl|rfl<;>rfl⟩
theorem bT.keepP {h h':af} {F B:Nat→Prop} {v:Value} {S:Rf} (x:bT h F v S) (k:Kept h h' B) (hB : ∀ b,B b→ei h b):bT h' F v S:=by
 obtain ⟨a,c,rfl,h1,h2,h3⟩:=x
 exact ⟨a,c,rfl,k.ef hB h1,h2,h3⟩
theorem dev_end {h0 g:af} {F:Nat→Prop} {S T:Rf} {vv:Value} {a:Option Addr} {n c m4 m6:Nat} (r:bT g F vv T) (g4:g.get m4=some (S.cells (.slice a n c))) (g6:g.get m6=some bC) (hn:g.n0≤m4) (hm:m4<m6) {d bb:Nat} (k:cq d bb h0 g) (h4:h0.next≤m4) (hd:d<m4) (hb:bb<m4) {D:Dk} (x:aX g d D) (hD:D.bb=bb) :
  ∃ g1 g2,bK 6 (ptr m4 0) vv g=some (undef,g1)∧bD 6 (ptr m4 0) g1=some (vv,g1)∧bK 6 (ptr m6 0) vv g1=some (undef,g2)∧bD 6 (ptr m6 0) g2=some (vv,g2)∧bT g2 F vv T∧cq d bb h0 g2∧aX g2 d D:=by
 have r':=r
 obtain ⟨a',c',rfl,t1,t2,t3⟩:=r
 have k1:Kept g (g.set m4 (T.cells (.slice a' T.aU.length c'))) (fun c=>c=m4):=Kept.set hn g4 (.inr rfl)
 have p1 : ∀ b,b=m4→ei g b:=fun b hb=>by subst hb;exact cells_plain g4
 have g41:(g.set m4 (T.cells (.slice a' T.aU.length c'))).get m4=some (T.cells (.slice a' T.aU.length c')):=af.a9 hn g4 _
 have g61:=k1.cB g6 (by omega)
 have s1:=rf_st (k':=T.cells (.slice a' T.aU.length c')) g4 hn rfl rfl (db _ _ _ _)
 have l1:=dD g41 rfl (aR _ _ _ _)
 have hn1:(g.set m4 (T.cells (.slice a' T.aU.length c'))).n0≤m6:=by rw [k1.n0];omega
 have r1:=r'.keepP k1 p1
 have x1:=x.mono k1.n0 (k1.get d x.lt (by omega)) (k1.get D.bb x.blt (by omega))
 have kk1:cq d bb h0 (g.set m4 (T.cells (.slice a' T.aU.length c'))):=k.bM k1 (fun c hc e=>by omega)
 generalize g.set m4 (T.cells (.slice a' T.aU.length c'))=q1 at *
 have k2:Kept q1 (q1.set m6 (T.cells (.slice a' T.aU.length c'))) (fun c=>c=m6):=Kept.set hn1 g61 (.inr rfl)
 have p2 : ∀ b,b=m6→ei q1 b:=fun b hb=>by subst hb;exact zero6_plain g61
 have s2:=rf_st (k':=T.cells (.slice a' T.aU.length c')) g61 hn1 rfl rfl (db _ _ _ _)
 have l2:=dD (af.a9 hn1 g61 (T.cells (.slice a' T.aU.length c'))) rfl (aR _ _ _ _)
 exact ⟨q1,_,s1,l1,s2,l2,r1.keepP k2 p2,kk1.bM k2 (fun c hc e=>by omega),x1.mono k2.n0 (k2.get d x1.lt (by omega)) (k2.get D.bb x1.blt (by omega))⟩
theorem dev_end' {h0 g:af} {F:Nat→Prop} {S:Rf} {a:Option Addr} {c m4 m6:Nat} (r:bT g F (.agg (S.cells (.slice a S.aU.length c)).toArray) S) (g4:g.get m4=some (S.cells (.slice a S.aU.length c))) (g6:g.get m6=some bC) (hn:g.n0≤m4) (hm:m4<m6) {d bb:Nat} (k:cq d bb h0 g) (h4:h0.next≤m4) (hd:d<m4) (hb:bb<m4) {D:Dk} (x:aX g d D) (hD:D.bb=bb) :
  ∃ g2,bD 6 (ptr m4 0) g=some (.agg (S.cells (.slice a S.aU.length c)).toArray,g)∧bK 6 (ptr m6 0) (.agg (S.cells (.slice a S.aU.length c)).toArray) g=some (undef,g2)∧bD 6 (ptr m6 0) g2=some (.agg (S.cells (.slice a S.aU.length c)).toArray,g2)∧bT g2 F (.agg (S.cells (.slice a S.aU.length c)).toArray) S∧cq d bb h0 g2∧aX g2 d D∧Kept g g2 (fun c=>c=m6):=by
 have hn1:g.n0≤m6:=by omega
 have k2:Kept g (g.set m6 (S.cells (.slice a S.aU.length c))) (fun c=>c=m6):=Kept.set hn1 g6 (.inr rfl)
 have p2 : ∀ b,b=m6→ei g b:=fun b hb=>by subst hb;exact zero6_plain g6
 exact ⟨_,dD g4 rfl (aR _ _ _ _),rf_st g6 hn1 rfl rfl (db _ _ _ _),dD (af.a9 hn1 g6 _) rfl (aR _ _ _ _),r.keepP k2 p2,k.bM k2 (fun c hc e=>by omega),x.mono k2.n0 (k2.get d x.lt (by omega)) (k2.get D.bb x.blt (by omega)),k2⟩
def DevPost (h:af) (d:Nat) (D:Dk) (o:Out):Prop:=
 ∃ v' h' D' S',o=some (.tuple #[v',.bool true],h')∧aX h' d D'∧D'.bb=D.bb∧D'.n=D.n∧Eqd D' S'∧bT h' (fun c=>c=d∨c=D.bb) v' S'∧cq d D.bb h h'
set_option maxRecDepth 100000 in
set_option maxHeartbeats 1000000 in
theorem r49 {h:af} {d:Nat} {D:Dk} {S:Rf} {v:Value} (x:aX h d D) (h4:4≤D.n) (hn:D.n≤4096) (q:Eqd D S) (r:bT h (fun c=>c=d∨c=D.bb) v S) {kind A B:Int} {m:Nat} {da ra:Option Addr} {dn dc rn rc:Nat} {data:List Nat} (hdat:av da dn h=some data) (hda : ∀ y,da=some y→0<dn → ¬(y.block=d∨y.block=D.bb)) (hdn:dn≤21000) (hm:m<256) (hA:fq A=true) :
  DevPost h d D (CD 49 [ptr d 0,v,.agg #[.int .i64 kind,.int .i64 A,.int .i64 B,u8 m,.slice da dn dc,.slice ra rn rc]] h):=by
 have hlen:=x.len
 have hl:S.aU.length≤1000000:=by rw [q.aU];omega
 have hdl:=x.lt
 have hbl:=x.blt
 have hF : ∀ g:af,h.next≤g.next → ∀ b,(b=d∨b=D.bb)→b<g.next:=fun g hg b hb=>by omega
 have key:DevPost h d D (t49 CD (ptr d 0) v (.agg #[.int .i64 kind,.int .i64 A,.int .i64 B,u8 m,.slice da dn dc,.slice ra rn rc]) h):=by
  have r0:=r
  obtain ⟨a,c,rfl,s1,s2,s3⟩:=r
  have e4:box (.agg (S.cells (.slice a S.aU.length c)).toArray) h=some (ptr h.next 0,h.alloc (S.cells (.slice a S.aU.length c))):=rfl
  have o4:Old h (h.alloc (S.cells (.slice a S.aU.length c))):=Kept.alloc _ _ _
  have g4:(h.alloc (S.cells (.slice a S.aU.length c))).get h.next=some (S.cells (.slice a S.aU.length c)):=by rw [af.aD,if_pos rfl]
  have n4:(h.alloc (S.cells (.slice a S.aU.length c))).next=h.next+1:=af.aW ..
  generalize h.alloc (S.cells (.slice a S.aU.length c))=q4 at *
  have e5:box (.agg #[.int .i64 kind,.int .i64 A,.int .i64 B,u8 m,.slice da dn dc,.slice ra rn rc]) q4=some (ptr q4.next 0,q4.alloc [.int .i64 kind,.int .i64 A,.int .i64 B,u8 m,.slice da dn dc,.slice ra rn rc]):=rfl
  have o5:Old q4 (q4.alloc [.int .i64 kind,.int .i64 A,.int .i64 B,u8 m,.slice da dn dc,.slice ra rn rc]):=Kept.alloc _ _ _
  have g5:(q4.alloc [.int .i64 kind,.int .i64 A,.int .i64 B,u8 m,.slice da dn dc,.slice ra rn rc]).get q4.next=some [.int .i64 kind,.int .i64 A,.int .i64 B,u8 m,.slice da dn dc,.slice ra rn rc]:=by rw [af.aD,if_pos rfl]
  have n5:(q4.alloc [.int .i64 kind,.int .i64 A,.int .i64 B,u8 m,.slice da dn dc,.slice ra rn rc]).next=q4.next+1:=af.aW ..
  generalize q4.alloc [.int .i64 kind,.int .i64 A,.int .i64 B,u8 m,.slice da dn dc,.slice ra rn rc]=q5 at *
  have g45:=Old.get o5 g4
  have e6:dp [(.slice none 0 0),(.bool false),(.bool false),(.int .i64 0),(.int .i64 0),(.int .i64 0)] q5=some (ptr q5.next 0,q5.alloc bC):=rfl
  have o6:Old q5 (q5.alloc bC):=Kept.alloc _ _ _
  have z6:(q5.alloc bC).get q5.next=some bC:=by rw [af.aD,if_pos rfl]
  have n6:(q5.alloc bC).next=q5.next+1:=af.aW ..
  generalize q5.alloc bC=q0 at *
  have g40:=Old.get o6 g45
  have g50:=Old.get o6 g5
  have o0:Old h q0:=(o4.trans o5).trans o6
  have x0:=Old.dk o0 x
  have hn0:q0.n0≤h.next:=by rw [o0.n0];exact h.aF
  have rq0:=r0.bS o0
  have dk0:cq d D.bb h q0:=o0.mono (fun c _ hc=>hc.elim)
  generalize hm5:q4.next=m5 at *
  generalize hm6:q5.next=m6 at *
  have lds : ∀ g:af,g.get m5=some [.int .i64 kind,.int .i64 A,.int .i64 B,u8 m,.slice da dn dc,.slice ra rn rc]→aV (ptr m5 1) g=some (.int .i64 A,g)∧aV (ptr m5 2) g=some (.int .i64 B,g)∧aV (ptr m5 3) g=some (u8 m,g)∧aV (ptr m5 4) g=some (.slice da dn dc,g):=fun g hg=>⟨aJ hg rfl,aJ hg rfl,aJ hg rfl,aJ hg rfl⟩
  have l0:aV (ptr m5 0) q0=some (.int .i64 kind,q0):=aJ g50 rfl
  obtain ⟨lA,lB,lm,ldt⟩:=lds q0 g50
  have hkeep : ∀ {g:af},cq d D.bb q0 g→g.get h.next=some (S.cells (.slice a S.aU.length c))∧g.get m5=some [.int .i64 kind,.int .i64 A,.int .i64 B,u8 m,.slice da dn dc,.slice ra rn rc]∧g.get m6=some bC∧g.n0≤h.next∧cq d D.bb h g∧q0.next≤g.next:=fun {g} k=>⟨k.cB g40 (by omega),k.cB g50 (by omega),k.cB z6 (by omega),by rw [k.n0];exact hn0,o0.mono (fun c _ hc=>hc.elim) |>.trans (k.mono (fun c _ hc=>hc)),k.next⟩
  unfold t49
  simp -implicitDefEqProofs only [e4,ae,e5,hm5,e6,hm6,ax,Nat.add_zero,aj,l0,bZ]
  by_cases k1:kind=1
  ·subst k1
   have hfe:=q.fault hlen A
   have key1 : ∃ ra' rn' rc' q1,CD 20 [ptr d 0,.int .i64 A] q0=some (.tuple #[.slice ra' rn' rc',.int .i64 (D.fault A)],q1)∧Old q0 q1∧((D.fault A≠0∧(.slice ra' rn' rc':Value) = .slice none 0 0)∨(D.fault A=0∧av ra' rn' q1=some (D.read A))):=by
    by_cases hf:D.fault A=0
    ·obtain ⟨hdn',hi1,hi2⟩:=Dk.fy hf
     have hrl:(D.read A).length=128:=by
      unfold Dk.read
      rw [List.length_take,List.length_drop]
      omega
     refine ⟨some ⟨q0.next,0,none⟩,128,128,q0.alloc ((D.read A).map u8),?_,Kept.alloc _ _ _,.inr ⟨hf,?_⟩⟩
     ·rw [hf]
      exact dP (by rw [X20];exact s20_at x0 A hf)
     ·rw [cH (l:=D.read A) (by rw [af.aD,if_pos rfl]) (by omega) (fun y hy=>x.byte y (List.mem_of_mem_drop (List.mem_of_mem_take hy))),List.drop_zero,List.take_of_length_le (by omega)]
    ·exact ⟨none,0,0,q0,dP (by rw [X20];exact s20_bad x0 A hf),Kept.refl _ _,.inl ⟨hf,rfl⟩⟩
   obtain ⟨ra',rn',rc',q1,e20,o1,hr1⟩:=key1
   have dk1:cq d D.bb q0 q1:=o1.mono (fun c _ hc=>hc.elim)
   obtain ⟨g41,g51,z61,n01,_,nx1⟩:=hkeep dk1
   obtain ⟨lA1,_⟩:=lds q1 g51
   obtain ⟨w,q2,e77,o2,hr2⟩:=r77 (rq0.bS o1) hl A
   rw [hfe] at e77 hr2
   have dk2:cq d D.bb q0 q2:=(o1.trans o2).mono (fun c _ hc=>hc.elim)
   obtain ⟨g42,g52,z62,n02,dkh2,nx2⟩:=hkeep dk2
   have x2:=Old.dk (o1.trans o2) x0
   obtain ⟨g3,f1,f2,f3,f4,f5,f6,f7⟩:=dev_end' (h0:=h) (m4:=h.next) (m6:=m6) (rq0.bS (o1.trans o2)) g42 z62 n02 (by omega) dkh2 (Nat.le_refl _) hdl hbl x2 rfl
   have cmp : ∃ sa sb:ByteArray,w.cells = #[w]∧fB (.slice ra' rn' rc') q2=some (.string sa,q2)∧fB w q2=some (.string sb,q2)∧fB (.slice ra' rn' rc') g3=some (.string sa,g3)∧fB w g3=some (.string sb,g3)∧(sa.toList==sb.toList)=true:=by
    have p7 : ∀ b,b=m6→ei q2 b:=fun b hb=>by subst hb;exact zero6_plain z62
    rcases hr1 with ⟨hf,hw⟩|⟨hf,hs⟩
    ·rcases hr2 with ⟨_,rfl⟩|⟨hf',_⟩
     ·rw [hw]
      exact ⟨iz [],iz [],rfl,eP (iH _),eP (iH _),eP (iH _),eP (iH _),by simp⟩
     ·exact absurd hf' hf
    ·rcases hr2 with ⟨hf',_⟩|⟨_,ow⟩
     ·exact absurd hf hf'
     ·obtain ⟨aw,cw,rfl,w1,_⟩:=ow.bytes
      have hs2:=Old.bytes o2 hs
      refine ⟨_,_,rfl,eP hs2,eP w1,eP (f7.ef p7 hs2),eP (f7.ef p7 w1),?_⟩
      have he:D.read A=(S.aU.drop (128*A.toNat)).take 128:=by unfold Dk.read;rw [q.aU,Nat.mul_comm]
      rw [he];simp
   obtain ⟨sa,sb,hwc,cva,cvb,cva3,cvb3,hse⟩:=cmp
   have hc1:bU true (some (Value.string sa,g3)) (.string sa)=true:=du rfl (by simp [veq])
   have hc2:bU true (some (Value.string sb,g3)) (.string sb)=true:=du rfl (by simp [veq])
   have b1:(((1:Int))==1)=true:=rfl
   have bf:(D.fault A==D.fault A)=true:=beq_self_eq_true _
   simp -implicitDefEqProofs only [b1,ae,lA,e20,xt20,xt21,aj,dD g41 rfl (aR _ _ _ _),lA1,e77,f1,bin28e,bf,az,ay,beq_self_eq_true,cva,cvb,bin_str_eql,hse,if_true,f2,cva3,cvb3,hc1,hc2,Bool.and_true]
   exact ⟨_,_,D,S,cQ (rs:=Try.f49.results.toList) (n:=122) (k:=6) (t:=7) results49 (by decide) (by decide) _ f3,f6,rfl,rfl,q,f4,f5⟩
  have k1':(kind==1)=false:=beq_eq_false_iff_ne.2 k1
  simp -implicitDefEqProofs only [k1',ae]
  by_cases k2:kind=2
  ·subst k2
   have oA:Old q0 (q0.alloc []):=Kept.alloc _ _ _
   have hbs:dY 1 (.int .u8 0) 0 [] q0=some (.slice (some ⟨q0.next,0,none⟩) 0 0,q0.alloc []):=rfl
   have nA:(q0.alloc []).next=q0.next+1:=af.aW ..
   have own0:cY (q0.alloc []) q0.next (.slice (some ⟨q0.next,0,none⟩) 0 0) []:=⟨cl.empty _ (Nat.le_refl _),by simp⟩
   obtain ⟨w,q1,ea,ow,ka,_⟩:=dK own0 (by rw [oA.n0];omega) (by omega) (Old.bytes (o0.trans oA) hdat) (c:=dc) (by simp;omega)
   rw [List.nil_append] at ow
   have o1:Old q0 q1:=oA.bM ka (fun e he hB=>by
    have:dX (.slice (some ⟨q0.next,0,none⟩) 0 0)=some q0.next:=rfl
    rw [this] at hB
    cases hB
    omega)
   obtain ⟨aw,cw,rfl,w1,w2,_⟩:=ow.bytes
   have dk1:cq d D.bb q0 q1:=o1.mono (fun c _ hc=>hc.elim)
   obtain ⟨g41,g51,z61,n01,_,nx1⟩:=hkeep dk1
   obtain ⟨lA1,_⟩:=lds q1 g51
   have hck:bU true (some (Value.int .i64 A,q1)) (.int .i64 A)=true:=du rfl (by simp [veq])
   obtain ⟨e19,x2,b2,nn2,kk2⟩:=r19 (Old.dk o1 x0) A w1 w2
   generalize cV q1 d (D.write A data).2=q2 at *
   have dk2:cq d D.bb q0 q2:=dk1.trans (kk2.mono (fun c _ hc=>hc))
   obtain ⟨g42,g52,z62,n02,dkh2,nx2⟩:=hkeep dk2
   obtain ⟨lA2,_,_,ld2⟩:=lds q2 g52
   have rq2:bT q2 (fun c=>c=d∨c=D.bb) (.agg (S.cells (.slice a S.aU.length c)).toArray) S:=(rq0.bS o1).aG kk2 (fun b _ hb=>hb)
   have hdat2:av da dn q2=some data:=kk2.bytes (Old.bytes (o0.trans o1) hdat) (fun y hy hn hB=>hda y hy hn hB)
   obtain ⟨hw1,hw2⟩:=q.write hlen x.after A data
   obtain ⟨v3,q3,e70,r3,o3⟩:=r70 (cb:=dc) rq2 (hF q2 (by omega)) hl q.kp A hdat2
   have x3:=Old.dk o3 x2
   have dk3:cq d D.bb q0 q3:=dk2.trans (o3.mono (fun c _ hc=>hc.elim))
   obtain ⟨g43,g53,z63,n03,dkh3,nx3⟩:=hkeep dk3
   obtain ⟨g4',g5',f1,f2,f3,f4,f5,f6,f7⟩:=dev_end (h0:=h) r3 g43 z63 n03 (by omega) dkh3 (Nat.le_refl _) hdl hbl x3 b2
   rw [hw1] at e70
   have b1:((2:Int)==2)=true:=rfl
   simp -implicitDefEqProofs only [b1,ae,lA,ldt,hbs,(lds _ (af.cM g50 [])).1,ea,lA1,hck,Bool.and_true,e19,aj,dD g42 rfl (aR _ _ _ _),lA2,ld2,e70,xt20,xt21,f1,f2,bin28e,beq_self_eq_true,f3]
   exact ⟨_,_,(D.write A data).2,(S.write A data).2,cQ (rs:=Try.f49.results.toList) (n:=122) (k:=6) (t:=7) results49 (by decide) (by decide) _ f4,f7,b2,nn2,hw2,f5,f6⟩
  have k2':(kind==2)=false:=beq_eq_false_iff_ne.2 k2
  simp -implicitDefEqProofs only [k2',ae]
  by_cases k3:kind=3
  ·subst k3
   have hA':A≤9223372036854775807:=by
    simp only [fq,Bool.and_eq_true,decide_eq_true_eq] at hA
    omega
   have like:=D.arm_like A B
   have oka:Okd D (D.arm A B).2:=by
    unfold Dk.arm
    split
    ·exact ⟨rfl,rfl,rfl,x.byte,x.after,x.aG⟩
    ·split
     ·exact ⟨rfl,rfl,rfl,x.byte,x.after,x.aG⟩
     ·rename_i hb
      exact ⟨rfl,rfl,rfl,x.byte,by show 0≤A∧A≤9223372036854775807;omega,by show 0≤B∧B≤128;omega⟩
   have e48:CD 48 [ptr d 0,.int .i64 A,.int .i64 B] q0=some (.int .i64 (D.arm A B).1,cV q0 d (D.arm A B).2):=dP (by
    rw [X48]
    unfold s48 ptr
    simp only [x0.of]
    rw [if_pos hA'])
   have x2:=x0.put oka
   have kk2:=putDk_only x0 oka.bb
   generalize cV q0 d (D.arm A B).2=q2 at *
   obtain ⟨g42,g52,z62,n02,dkh2,nx2⟩:=hkeep kk2
   obtain ⟨lA2,lB2,_,ld2⟩:=lds q2 g52
   have rq2:bT q2 (fun c=>c=d∨c=D.bb) (.agg (S.cells (.slice a S.aU.length c)).toArray) S:=rq0.aG kk2 (fun b _ hb=>hb)
   obtain ⟨hw1,hw2⟩:=q.armT A B
   obtain ⟨v3,q3,e78,r3,o3⟩:=r78 rq2 A B
   have x3:=Old.dk o3 x2
   have dk3:cq d D.bb q0 q3:=kk2.trans (o3.mono (fun c _ hc=>hc.elim))
   obtain ⟨g43,g53,z63,n03,dkh3,nx3⟩:=hkeep dk3
   obtain ⟨g4',g5',f1,f2,f3,f4,f5,f6,f7⟩:=dev_end (h0:=h) r3 g43 z63 n03 (by omega) dkh3 (Nat.le_refl _) hdl hbl x3 oka.bb
   rw [hw1] at e78
   have b1:((3:Int)==3)=true:=rfl
   simp -implicitDefEqProofs only [b1,ae,lA,lB,e48,aj,dD g42 rfl (aR _ _ _ _),lA2,lB2,e78,xt20,xt21,f1,f2,bin28e,beq_self_eq_true,f3]
   exact ⟨_,_,(D.arm A B).2,(S.arm A B).1,cQ (rs:=Try.f49.results.toList) (n:=122) (k:=6) (t:=7) results49 (by decide) (by decide) _ f4,f7,oka.bb,oka.n,hw2,f5,f6⟩
  have k3':(kind==3)=false:=beq_eq_false_iff_ne.2 k3
  simp -implicitDefEqProofs only [k3',ae]
  by_cases k4:kind=4
  ·subst k4
   obtain ⟨e32,x2,kk2⟩:=r32 x0
   generalize cV q0 d D.off=q2 at *
   obtain ⟨g42,g52,z62,n02,dkh2,nx2⟩:=hkeep kk2
   have rq2:bT q2 (fun c=>c=d∨c=D.bb) (.agg (S.cells (.slice a S.aU.length c)).toArray) S:=rq0.aG kk2 (fun b _ hb=>hb)
   obtain ⟨v3,q3,e79,r3,o3⟩:=r79 rq2
   have x3:=Old.dk o3 x2
   have dk3:cq d D.bb q0 q3:=kk2.trans (o3.mono (fun c _ hc=>hc.elim))
   obtain ⟨g43,g53,z63,n03,dkh3,nx3⟩:=hkeep dk3
   obtain ⟨g4',g5',f1,f2,f3,f4,f5,f6,f7⟩:=dev_end (h0:=h) r3 g43 z63 n03 (by omega) dkh3 (Nat.le_refl _) hdl hbl x3 D.gf.bb
   have b1:((4:Int)==4)=true:=rfl
   have bz:((0:Int)==0)=true:=rfl
   simp -implicitDefEqProofs only [b1,ae,e32,aj,dD g42 rfl (aR _ _ _ _),e79,f1,f2,bin28e,bz,f3]
   exact ⟨_,_,D.off,S.off,cQ (rs:=Try.f49.results.toList) (n:=122) (k:=6) (t:=7) results49 (by decide) (by decide) _ f4,f7,D.gf.bb,D.gf.n,q.off,f5,f6⟩
  have k4':(kind==4)=false:=beq_eq_false_iff_ne.2 k4
  simp -implicitDefEqProofs only [k4',ae]
  by_cases k5:kind=5
  ·subst k5
   obtain ⟨e33,x2,kk2⟩:=r33 x0
   generalize cV q0 d D.on=q2 at *
   obtain ⟨g42,g52,z62,n02,dkh2,nx2⟩:=hkeep kk2
   have rq2:bT q2 (fun c=>c=d∨c=D.bb) (.agg (S.cells (.slice a S.aU.length c)).toArray) S:=rq0.aG kk2 (fun b _ hb=>hb)
   obtain ⟨v3,q3,e80,r3,o3⟩:=r80 rq2
   have x3:=Old.dk o3 x2
   have dk3:cq d D.bb q0 q3:=kk2.trans (o3.mono (fun c _ hc=>hc.elim))
   obtain ⟨g43,g53,z63,n03,dkh3,nx3⟩:=hkeep dk3
   obtain ⟨g4',g5',f1,f2,f3,f4,f5,f6,f7⟩:=dev_end (h0:=h) r3 g43 z63 n03 (by omega) dkh3 (Nat.le_refl _) hdl hbl x3 rfl
   have b1:((5:Int)==5)=true:=rfl
   have bz:((0:Int)==0)=true:=rfl
   simp -implicitDefEqProofs only [b1,ae,e33,aj,dD g42 rfl (aR _ _ _ _),e80,f1,f2,bin28e,bz,f3]
   exact ⟨_,_,D.on,S.on,cQ (rs:=Try.f49.results.toList) (n:=122) (k:=6) (t:=7) results49 (by decide) (by decide) _ f4,f7,rfl,rfl,q.on,f5,f6⟩
  have k5':(kind==5)=false:=beq_eq_false_iff_ne.2 k5
  simp -implicitDefEqProofs only [k5',ae]
  by_cases k6:kind=6
  ·subst k6
   obtain ⟨q2,e81,x2,kk2⟩:=r81 x0 (by omega)
   obtain ⟨g42,g52,z62,n02,dkh2,nx2⟩:=hkeep kk2
   have rq2:bT q2 (fun c=>c=d∨c=D.bb) (.agg (S.cells (.slice a S.aU.length c)).toArray) S:=rq0.aG kk2 (fun b _ hb=>hb)
   obtain ⟨v3,q3,e82,r3,o3⟩:=r82 rq2 hl
   have r3:=r3.mono (hF q2 (by omega))
   have x3:=Old.dk o3 x2
   have dk3:cq d D.bb q0 q3:=kk2.trans (o3.mono (fun c _ hc=>hc.elim))
   obtain ⟨g43,g53,z63,n03,dkh3,nx3⟩:=hkeep dk3
   obtain ⟨g4',g5',f1,f2,f3,f4,f5,f6,f7⟩:=dev_end (h0:=h) r3 g43 z63 n03 (by omega) dkh3 (Nat.le_refl _) hdl hbl x3 rfl
   have b1:((6:Int)==6)=true:=rfl
   have bz:((0:Int)==0)=true:=rfl
   simp -implicitDefEqProofs only [b1,ae,e81,aj,dD g42 rfl (aR _ _ _ _),e82,f1,f2,bin28e,bz,f3]
   exact ⟨_,_,D.wipe,S.wipe,cQ (rs:=Try.f49.results.toList) (n:=122) (k:=6) (t:=7) results49 (by decide) (by decide) _ f4,f7,rfl,rfl,q.wipe,f5,f6⟩
  have k6':(kind==6)=false:=beq_eq_false_iff_ne.2 k6
  simp -implicitDefEqProofs only [k6',ae]
  by_cases k7:kind=7
  ·subst k7
   obtain ⟨q2,e31,x2,kk2⟩:=r31 x0 A B hm
   have hb7:(D.rot A B m).2.bb=D.bb:=by unfold Dk.rot;split<;>rfl
   have hn7:(D.rot A B m).2.n=D.n:=by unfold Dk.rot;split<;>rfl
   obtain ⟨g42,g52,z62,n02,dkh2,nx2⟩:=hkeep kk2
   obtain ⟨lA2,lB2,lm2,ld2⟩:=lds q2 g52
   have rq2:bT q2 (fun c=>c=d∨c=D.bb) (.agg (S.cells (.slice a S.aU.length c)).toArray) S:=rq0.aG kk2 (fun b _ hb=>hb)
   obtain ⟨hw1,hw2⟩:=q.rotT hlen A B m
   obtain ⟨v3,q3,e83,r3,o3⟩:=r83 rq2 (hF q2 (by omega)) hl A B hm
   have x3:=Old.dk o3 x2
   have dk3:cq d D.bb q0 q3:=kk2.trans (o3.mono (fun c _ hc=>hc.elim))
   obtain ⟨g43,g53,z63,n03,dkh3,nx3⟩:=hkeep dk3
   obtain ⟨g4',g5',f1,f2,f3,f4,f5,f6,f7⟩:=dev_end (h0:=h) r3 g43 z63 n03 (by omega) dkh3 (Nat.le_refl _) hdl hbl x3 hb7
   rw [hw1] at e83
   have b1:((7:Int)==7)=true:=rfl
   simp -implicitDefEqProofs only [b1,ae,lA,lB,lm,e31,aj,dD g42 rfl (aR _ _ _ _),lA2,lB2,lm2,e83,xt20,xt21,f1,f2,bin28e,beq_self_eq_true,f3]
   exact ⟨_,_,(D.rot A B m).2,(S.rot A B m).2,cQ (rs:=Try.f49.results.toList) (n:=122) (k:=6) (t:=7) results49 (by decide) (by decide) _ f4,f7,hb7,hn7,hw2,f5,f6⟩
  have k7':(kind==7)=false:=beq_eq_false_iff_ne.2 k7
  obtain ⟨g3,f1,f2,f3,f4,f5,f6,f7⟩:=dev_end' (h0:=h) (m4:=h.next) (m6:=m6) rq0 g40 z6 hn0 (by omega) dk0 (Nat.le_refl _) hdl hbl x0 rfl
  have bz:((0:Int)==0)=true:=rfl
  simp -implicitDefEqProofs only [k7',ae,f1,bin28e,bz,aj,f2]
  exact ⟨_,_,D,S,cQ (rs:=Try.f49.results.toList) (n:=122) (k:=6) (t:=7) results49 (by decide) (by decide) _ f3,f6,rfl,rfl,q,f4,f5⟩
 obtain ⟨v',h',D',S',e,f⟩:=key
 exact ⟨v',h',D',S',aK is49 rfl ((t49_eq _ _ _ _ _).trans e),f⟩
end Go.Proofs.Ytcmfgmhadeeieaa

namespace Go.Proofs.Ytcmfgmhadeeieaa
open Go Go.Abs
theorem is52:ch Try.prog 52 Try.f52:=⟨by kernel_rfl,by kernel_rfl,by kernel_rfl,by kernel_rfl⟩
theorem b52_exit (C:ak) (e:Env) (h:af):b52_6 C 0 e h=k52_4 C e h:=rfl
theorem cl.at1 {h:af} {N:Nat} {v:Value} {ps:List Nat} (o:cl h N 1 v ps.length (ps.map ao)) {i:Nat} {n:Nat} (hi:ps[i]? = some n) : ∃ b,bV 1 v (ao i)=some (ptr b i)∧aV (ptr b i) h=some (ao n,h):=by
 have hl:=(List.getElem?_eq_some_iff.1 hi).1
 obtain ⟨_,_,_,⟨rfl,h4⟩|⟨b,s,rfl,_,⟨_,h4⟩|⟨rfl,h5⟩⟩⟩:=o
 ·omega
 ·omega
 ·refine ⟨b,?_,aJ h5 (by rw [List.getElem?_map,hi];rfl) rfl⟩
  unfold bV
  simp only [ao]
  rw [if_pos (by omega),Int.toNat_natCast,Nat.zero_add,Nat.mul_one]
theorem r52 {h:af} {N M:Nat} {v w:Value} {ps:List Nat} (o1:cl h N 1 v ps.length (ps.map ao)) (o2:cl h M 1 w ps.length (ps.map ao)) (hlen:ps.length≤100000) :
  CD 52 [v,w] h=some (.bool true,h):=by
 refine aK is52 rfl ((t52_eq _ _ _ _).trans ?_)
 unfold t52
 have hb:(ps.length==ps.length)=true:=beq_self_eq_true _
 simp -implicitDefEqProofs only [ae,o1.len,o2.len,aj,bin3n,hb,Bool.not_true]
 refine cy (n:=26) (fin:=fun ex _ g=>ex = .exit 0∧g=h) (Q:=fun o:Out=>o=some (Value.bool true,h))
  (ct (t52l52_11010_eq CD) (Inv:=fun k y g => ∃ i,i+k=ps.length∧y 5=ao i∧y 0=v∧y 1=w∧g=h) ?_ ps.length (by have:rounds=18446744073709551616:=rfl;omega) ⟨0,Nat.zero_add _,rfl,rfl,rfl,rfl⟩) ?_
 ·rintro k y g ⟨i,hk,y5,y0,y1,rfl⟩
  unfold t52l52_11010
  simp -implicitDefEqProofs only [y5,y0,o1.len,ae,aj,gH]
  by_cases hi:i<ps.length
  ·obtain ⟨b,i1,l1⟩:=o1.at1 (List.getElem?_eq_getElem hi)
   obtain ⟨b',i2,l2⟩:=o2.at1 (List.getElem?_eq_getElem hi)
   generalize ps[i]=e at *
   have he1:(e==e)=true:=beq_self_eq_true _
   simp -implicitDefEqProofs only [decide_eq_true hi,i1,i2,y1,l1,l2,ae,aj,bin3n,he1,Bool.not_true,dJ (show i+1≤9223372036854775807 by omega)]
   exact c8.next (k-1) (by omega) ⟨i+1,by omega,rfl,y0,y1,rfl⟩
  ·simp -implicitDefEqProofs only [decide_eq_false hi]
   exact c8.out 0 ⟨rfl,rfl⟩
 ·rintro ex z g ⟨rfl,rfl⟩
  simp -implicitDefEqProofs only [bG,b52_exit,t52k52_4_eq]
  unfold t52k52_4
  rw [ae]
theorem r45_nil {h:af} {F:Nat→Prop} {v:Value} {S:Rf} (x:bT h F v S) : ∃ h',CD 45 [.agg (.pointer none::cT).toArray,v] h=some (.bool true,h')∧Old h h':=by
 have x':=x
 have oP:Old h (h.alloc (.pointer none::cT)):=Kept.alloc _ _ _
 have gP:(h.alloc (.pointer none::cT)).get h.next=some (.pointer none::cT):=by rw [af.aD,if_pos rfl]
 have bP:=box_at h (.pointer none::cT) rfl
 have nP:(h.alloc (.pointer none::cT)).next=h.next+1:=af.aW ..
 generalize h.alloc (.pointer none::cT)=q0 at *
 obtain ⟨a,c,g,rfl,b1,b2,b3,b4,_⟩:=cZ (x.bS oP)
 rw [nP] at b1 b2
 have oo:=oP.trans b3
 have gP1:=Old.get b3 gP
 have l6:=dD b2 rfl (aR _ _ _ _)
 have l8:bD 8 (ptr h.next 1) g=some (.agg cT.toArray,g):=ldN_at (n:=8) (o:=1) gP1 (by show 1+8≤9;omega) rfl
 obtain ⟨g1,e68,o1⟩:=r68_miss (x'.bS oo)
 have m0:aV (ptr h.next 0) g1=some (.pointer none,g1):=aJ (Old.get o1 gP1) rfl rfl
 have q580:bin Try.prog .eql 58 (.int .u64 0) (.int .u64 0)=some (.bool true):=by rw [bZ];rfl
 have q30:bin Try.prog .eql 3 (ao 0) (.int .i64 0)=some (.bool true):=eql3 0 0
 refine ⟨g1,aK is45 rfl ((t45_eq _ _ _ _).trans ?_),oo.trans o1⟩
 unfold t45
 simp -implicitDefEqProofs only [bP,b1,ae,l6,ax,Nat.zero_add,aj,l8,e68,bR,Bool.not_false,m0,r34_nil,q580,az,beq_self_eq_true,ay,r22_nil,q30,if_true,r26_nil,r74_nil]
end Go.Proofs.Ytcmfgmhadeeieaa

namespace Go.Proofs.Ytcmfgmhadeeieaa
open Go Go.Abs
def prC:Option (Nat×Jn)→dV
 |none => .pointer none::cT
 |some (j,J)=>ptr j 0::J.rc
theorem fe (jo:Option (Nat×Jn)):(prC jo).length=9:=by
 rcases jo with _|⟨j,J⟩<;>rfl
theorem prC_one (jo:Option (Nat×Jn)):bI (prC jo)=true:=by
 rcases jo with _|⟨j,J⟩<;>rfl
theorem prC_hole (jo:Option (Nat×Jn)):Abs.cN (prC jo)=true:=by
 rcases jo with _|⟨j,J⟩<;>rfl
theorem prC_plain (jo:Option (Nat×Jn)) : ∀ u∈prC jo,nat8 u=none:=by
 intro u hu
 rcases jo with _|⟨j,J⟩
 ·rcases List.mem_cons.1 hu with h|h
  ·rw [h];rfl
  ·exact miss8_plain u h
 ·rcases List.mem_cons.1 hu with h|h
  ·rw [h];rfl
  ·exact rc_plain J u h
structure St (h0 g:af) (d f p q:Nat) (D:Dk) (S:Rf) (v:Value) (j1 j2:Option (Nat×Jn)):Prop where
 dk:aX g d D
 n:4≤D.n∧D.n≤64
 box:Box6 g f v
 p6:Pl6 g f
 xr:bT g (fun c=>c=d∨c=D.bb) v S
 eq:Eqd D S
 g1:g.get p=some (prC j1)
 g2:g.get q=some (prC j2)
 k1 : ∀ j J,j1=some (j,J)→cC g j d J∧JnOk J D∧h0.next≤j
 k2 : ∀ j J,j2=some (j,J)→cC g j d J∧JnOk J D∧h0.next≤j
 ne : ∀ j J j' J',j1=some (j,J)→j2=some (j',J')→j≠j'
 bS:Old h0 g
 lo:h0.next≤D.bb∧D.bb<d∧d<f∧f<p∧p<q
theorem St.aG {h0 g g':af} {d f p q:Nat} {D:Dk} {S:Rf} {v:Value} {j1 j2:Option (Nat×Jn)} (x:St h0 g d f p q D S v j1 j2) (o:Old g g'):St h0 g' d f p q D S v j1 j2:=
 ⟨Old.dk o x.dk,x.n,x.box.aG o (fun h=>h),x.p6.aG o (fun h=>h),x.xr.bS o,x.eq,Old.get o x.g1,Old.get o x.g2,
  fun j J e=>⟨(x.k1 j J e).1.aG o (fun h=>h),(x.k1 j J e).2⟩,fun j J e=>⟨(x.k2 j J e).1.aG o (fun h=>h),(x.k2 j J e).2⟩,x.ne,x.bS.trans o,x.lo⟩
theorem r45_any {g:af} {F:Nat→Prop} {d:Nat} {D:Dk} {S:Rf} {v:Value} {jo:Option (Nat×Jn)} (xr:bT g F v S) (q:Eqd D S) (xd:aX g d D) (h4:4≤D.n) (k : ∀ j J,jo=some (j,J)→cC g j d J∧JnOk J D) :
  ∃ h',CD 45 [.agg (prC jo).toArray,v] g=some (.bool true,h')∧Old g h':=by
 rcases jo with _|⟨j,J⟩
 ·exact r45_nil xr
 ·obtain ⟨k1,k2⟩:=k j J rfl
  exact r45 xr q xd.len h4 xd.small xd k1 (fun hr=>(k2.ready hr).1)
theorem St.tail {h0 g:af} {d f p q:Nat} {D:Dk} {S:Rf} {v:Value} {j1 j2:Option (Nat×Jn)} (x:St h0 g d f p q D S v j1 j2) :
  ∃ hA hB hC a c sl,bD 9 (ptr p 0) g=some (.agg (prC j1).toArray,g)∧bD 6 (ptr f 0) g=some (v,g)∧CD 45 [.agg (prC j1).toArray,v] g=some (.bool true,hA)∧bD 9 (ptr q 0) hA=some (.agg (prC j2).toArray,hA)∧bD 6 (ptr f 0) hA=some (v,hA) ∧
    CD 45 [.agg (prC j2).toArray,v] hA=some (.bool true,hB)∧CD 36 [ptr d 0] hB=some (.bool D.down,hB)∧aV (ptr f 1) hB=some (.bool D.down,hB)∧CD 25 [ptr d 0] hB=some (.slice a (128*D.n) c,hC)∧fB (.slice a (128*D.n) c) hC=some (.string (iz D.aU),hC) ∧
    aV (ptr f 0) hC=some (sl,hC)∧aV (ptr f 0) hB=some (sl,hB)∧fB sl hC=some (.string (iz D.aU),hC)∧fB sl hB=some (.string (iz D.aU),hB)∧bU true (some (.bool D.down,hB)) (.bool D.down)=true∧bU true (some (sl,hB)) sl=true ∧
    bU true (some (.string (iz D.aU),hB)) (.string (iz D.aU))=true∧St h0 hC d f p q D S v j1 j2:=by
 obtain ⟨hA,e1,o1⟩:=r45_any x.xr x.eq x.dk x.n.1 (fun j J e=>⟨(x.k1 j J e).1,(x.k1 j J e).2.1⟩)
 have xA:=x.aG o1
 obtain ⟨hB,e2,o2⟩:=r45_any xA.xr xA.eq xA.dk xA.n.1 (fun j J e=>⟨(xA.k2 j J e).1,(xA.k2 j J e).2.1⟩)
 have xB:=xA.aG o2
 obtain ⟨a,c,hC,e3,t1,_,_,o3⟩:=r25 xB.dk
 have xC:=xB.aG o3
 obtain ⟨ai,ci,hv,y1,_,_⟩:=xB.xr
 obtain ⟨k,gk,hk,_,_⟩:=xB.box
 have hkk:k=S.cells (.slice ai S.aU.length ci):=by
  have:=hv.symm.trans hk
  injection this with h1
  have:=congrArg Array.toList h1
  simpa using this.symm
 subst hkk
 have y2:=Old.bytes o3 y1
 have hi:=x.eq.aU
 refine ⟨hA,hB,hC,a,c,.slice ai S.aU.length ci,cz x.g1 (fe _) (prC_hole _),x.box.ld,e1,cz xA.g2 (fe _) (prC_hole _),xA.box.ld,e2,dP (by rw [X36,s36_at xB.dk]),aJ gk (by rw [←x.eq.down];rfl) rfl,e3,eP t1,
  aJ (Old.get o3 gk) rfl rfl,aJ gk rfl rfl,by rw [eP y2,hi],by rw [eP y1,hi],du rfl (by simp [veq]),du rfl (by simp [veq]),du rfl (by simp [veq]),xC⟩
theorem pr_st {g:af} {p:Nat} {jo jn:Option (Nat×Jn)} (e:g.get p=some (prC jo)) (h0:g.n0≤p):bK 9 (ptr p 0) (.agg (prC jn).toArray) g=some (undef,g.set p (prC jn))∧(g.set p (prC jn)).get p=some (prC jn)∧Kept g (g.set p (prC jn)) (fun c=>c=p)∧ei g p:=by
 obtain ⟨s1,_,s3,s4⟩:=fW (n:=9) e h0 (fe _) (k':=prC jn) (fe _) (prC_one _) (prC_hole _)
 exact ⟨s1,s3,s4,_,e,prC_plain _⟩
end Go.Proofs.Ytcmfgmhadeeieaa

namespace Go.Proofs.Ytcmfgmhadeeieaa
open Go Go.Abs
theorem OpV.bS {h h':af} {k:dV} {o:Nat} {op:OpD} (x:OpV h k o op) (bS:Old h h'):OpV h' k o op:=by
 obtain ⟨dv,d1,d2,d3⟩:=x.data
 obtain ⟨rv,r1,r2,r3⟩:=x.dh
 exact ⟨x.kind,x.A,x.B,x.mask,⟨dv,d1,d2,d3.bS bS⟩,⟨rv,r1,r2,r3.bS bS⟩,x.wf⟩
theorem gO.bS {h h':af} {v:Value} {ops:List OpD} (x:gO h v ops) (bS:Old h h'):gO h' v ops:=by
 obtain ⟨a,n,c,rfl,h1,h2,h3⟩:=x
 refine ⟨a,n,c,rfl,h1,h2,fun i hi => ?_⟩
 obtain ⟨b,off,s,k,e1,e2,op,e3,e4⟩:=h3 i hi
 exact ⟨b,off,s,k,e1,Old.get bS e2,op,e3,e4.bS bS⟩
theorem OpV.ld {h:af} {b o:Nat} {k:dV} {op:OpD} (hk:h.get b=some k) (x:OpV h k o op) : ∃ da dn dc ra rn rc,(∀ h',Old h h'→bD 6 (ptr b o) h'=some (.agg #[.int .i64 op.kind,.int .i64 op.A,.int .i64 op.B,u8 op.mask,.slice da dn dc,.slice ra rn rc],h'))∧av da dn h=some op.data∧gh h (.slice ra rn rc) op.dh:=by
 obtain ⟨dv,d1,d2,da,dn,dc,rfl,d3,_⟩:=x.data
 obtain ⟨rv,r1,r2,r3⟩:=x.dh
 have r3':=r3
 obtain ⟨ra,rn,rc,rfl,_⟩:=r3
 have l5:=(List.getElem?_eq_some_iff.1 r1).1
 have hcs:(k.drop o).take 6 = [.int .i64 op.kind,.int .i64 op.A,.int .i64 op.B,u8 op.mask,.slice da dn dc,.slice ra rn rc]:=by
  apply List.ext_getElem?
  intro q
  rw [List.getElem?_take]
  by_cases hq:q<6
  ·rw [if_pos hq,List.getElem?_drop]
   match q,hq with
   | 0,_=>exact x.kind
   | 1,_=>exact x.A
   | 2,_=>exact x.B
   | 3,_=>exact x.mask
   | 4,_=>exact d1
   | 5,_=>exact r1
  ·rw [if_neg hq,List.getElem?_eq_none (by simp;omega)]
 refine ⟨da,dn,dc,ra,rn,rc,fun h' bS => ?_,d3,r3'⟩
 rw [ldN_at (Old.get bS hk) (by omega) (by rw [hcs];rfl),hcs]
theorem gO.at {h:af} {v:Value} {ops:List OpD} (x:gO h v ops) {i:Nat} (hi:i<ops.length) : ∃ b o da dn dc ra rn rc op,ops[i]? = some op∧bV 6 v (ao i)=some (ptr b o)∧(∀ h',Old h h'→bD 6 (ptr b o) h'=some (.agg #[.int .i64 op.kind,.int .i64 op.A,.int .i64 op.B,u8 op.mask,.slice da dn dc,.slice ra rn rc],h'))∧av da dn h=some op.data∧gh h (.slice ra rn rc) op.dh∧op.mask<256∧fq op.A=true∧fq op.B=true:=by
 obtain ⟨a,n,c,rfl,h1,h2,h3⟩:=x
 obtain ⟨b,off,s,k,rfl,e2,op,e3,e4⟩:=h3 i (by omega)
 obtain ⟨da,dn,dc,ra,rn,rc,e5,e6,e7⟩:=OpV.ld e2 e4
 refine ⟨b,off+i*6,da,dn,dc,ra,rn,rc,op,e3,?_,e5,e6,e7,e4.wf.2.2.2,e4.wf.2.1,e4.wf.2.2.1⟩
 unfold bV
 simp only [ao]
 rw [if_pos (by omega),Int.toNat_natCast]
theorem gO.len {h:af} {v:Value} {ops:List OpD} (x:gO h v ops):cK v=some (ao ops.length):=by
 obtain ⟨a,n,c,rfl,rfl,_⟩:=x
 rfl
theorem light {n:Int} {ops:List OpD} (h:heavyB n ops=false) : ¬(64<n∧n≤4096)∧ops.length≤100 ∧ ∀ op∈ops,op.dh.length≤40∧op.data.length≤21000 ∧ ∀ r∈op.dh,r.length≤21000:=by
 unfold heavyB at h
 simp only [Bool.or_eq_false_iff,Bool.and_eq_false_iff,decide_eq_false_iff_not] at h
 obtain ⟨⟨h1,h2⟩,h3⟩:=h
 refine ⟨fun ⟨a,b⟩=>h1.elim (fun h=>h a) (fun h=>h b),by omega,fun op hop => ?_⟩
 have:=List.any_eq_false.1 h3 op hop
 unfold gV at this
 simp only [Bool.or_eq_true,not_or,decide_eq_true_eq,List.any_eq_true,not_exists,not_and] at this
 exact ⟨by omega,by omega,fun r hr=>by have:=this.2 r hr;omega⟩
section
variable {h0:af} {v:Value} {ops:List OpD} (O:gO h0 v ops) (hlight : ∀ op∈ops,op.data.length≤21000) (h100:ops.length≤100) {d bb m7 n:Nat} (h4:4≤n) (hn:n≤4096) (hd:h0.next≤d) (hb:h0.next≤bb) (hm:h0.next≤m7) (hmd:m7≠d) (hmb:m7≠bb)
include O hlight h100 h4 hn hd hb hm hmd hmb
end
theorem eqd_new (h:af) (n:Nat):Eqd (Dk.new h n) (Rf.new n):=⟨rfl,rfl,rfl,fun h=>(by cases h),fun h=>(by cases h),rfl,⟨Int.le_refl 0,by show (0:Int)≤128;omega⟩⟩
end Go.Proofs.Ytcmfgmhadeeieaa

namespace Go.Proofs.Ytcmfgmhadeeieaa
open Go Go.Abs
def opC (op:OpD) (da:Option Addr) (dn dc:Nat) (ra:Option Addr) (rn rc:Nat):dV := [.int .i64 op.kind,.int .i64 op.A,.int .i64 op.B,u8 op.mask,.slice da dn dc,.slice ra rn rc]
def opZ:dV := [(.int .i64 0),(.int .i64 0),(.int .i64 0),(.int .u8 0),(.slice none 0 0),(.slice none 0 0)]
theorem gO.atZ {h:af} {v:Value} {ops:List OpD} (x:gO h v ops) {i:Nat} (hi:i<ops.length) : ∃ b o da dn dc ra rn rc op,ops[i]? = some op∧bV 6 v (ao i)=some (ptr b o)∧(∀ h',Old h h'→bD 6 (ptr b o) h'=some (.agg (opC op da dn dc ra rn rc).toArray,h'))∧av da dn h=some op.data∧goodZ da dn dc∧gh h (.slice ra rn rc) op.dh∧op.mask<256∧fq op.A=true∧fq op.B=true:=by
 obtain ⟨b,o,da,dn,dc,ra,rn,rc,op,e1,e2,e3,e4,e5,e6,e7,e8⟩:=x.at hi
 refine ⟨b,o,da,dn,dc,ra,rn,rc,op,e1,e2,e3,e4,?_,e5,e6,e7,e8⟩
 obtain ⟨a,n,c,rfl,h1,h2,h3⟩:=x
 obtain ⟨b',off,s,k,rfl,k2,op',k3,k4⟩:=h3 i (by omega)
 rw [e1] at k3
 cases k3
 obtain ⟨dv,d1,d2,da',dn',dc',rfl,d3,_,d4⟩:=k4.data
 have hb:bV 6 (.slice (some ⟨b',off,s⟩) n c) (ao i)=some (ptr b' (off+i*6)):=by
  unfold bV
  simp only [ao]
  rw [if_pos (by omega),Int.toNat_natCast]
 rw [hb] at e2
 have e2:=Option.some.inj e2
 have hbo:b'=b∧off+i*6=o:=by
  injection e2 with e2
  have e2:=Option.some.inj e2
  injection e2 with q1 q2
  exact ⟨q1,q2⟩
 obtain ⟨rfl,rfl⟩:=hbo
 have l1:=e3 h (Kept.refl _ _)
 have hc:k[off+i*6+4]? = some (.slice da dn dc):=by
  unfold bD ptr at l1
  simp only [k2] at l1
  split at l1
  ·have l1:=(Prod.mk.inj (Option.some.inj l1)).1
   injection l1 with l1
   have l1:=congrArg Array.toList l1
   have l1:(k.drop (off+i*6)).take 6=opC op da dn dc ra rn rc:=by simpa [opC] using l1
   have l2:=congrArg (fun z:List Value=>z[4]?) l1
   simp only [List.getElem?_take,List.getElem?_drop] at l2
   exact l2
  ·cases l1
 rw [d1] at hc
 cases hc
 exact d4
structure ScAt (h0:af) (v1:Value) (ops:List OpD) (d f p q:Nat) (k:Nat) (y:Nat→Value) (g:af) (i:Nat) (D:Dk) (S:Rf) (v:Value) (j1 j2:Option (Nat×Jn)):Prop where
 hik:i+k=ops.length
 bQ:y 11=ao i
 y1:y 1=v1
 y5:y 5=ptr d 0
 y7:y 7=ptr f 0
 y9:y 9=ptr p 0
 bH:y 10=ptr q 0
 st:St h0 g d f p q D S v j1 j2
def scInv (h0:af) (v1:Value) (ops:List OpD) (d f p q:Nat) (k:Nat) (y:Nat→Value) (g:af):Prop := ∃ i D S v j1 j2,ScAt h0 v1 ops d f p q k y g i D S v j1 j2
def scFin (ex:Ex) (_:Nat→Value) (_:af):Prop:=ex = .exit 0
theorem St.op {h0 g:af} {d f p q:Nat} {D:Dk} {S:Rf} {v:Value} {j1 j2:Option (Nat×Jn)} (x:St h0 g d f p q D S v j1 j2) (op:OpD) (da:Option Addr) (dn dc:Nat) (ra:Option Addr) (rn rc:Nat) :
  ∃ ga,dp [(.int .i64 0),(.int .i64 0),(.int .i64 0),(.int .u8 0),(.slice none 0 0),(.slice none 0 0)] g=some (ptr g.next 0,g.alloc opZ)∧bK 6 (ptr g.next 0) (.agg (opC op da dn dc ra rn rc).toArray) (g.alloc opZ)=some (undef,ga) ∧
    (∀ z,Old ga z→z.get g.next=some (opC op da dn dc ra rn rc))∧ga.get g.next=some (opC op da dn dc ra rn rc)∧St h0 ga d f p q D S v j1 j2∧Old g ga∧g.next<ga.next:=by
 have oA:Old g (g.alloc opZ):=Kept.alloc _ _ _
 have gA:(g.alloc opZ).get g.next=some opZ:=by rw [af.aD,if_pos rfl]
 have n0:(g.alloc opZ).n0≤g.next:=g.aF
 obtain ⟨s1,_,s3,s4⟩:=fW (n:=6) gA n0 rfl (k':=opC op da dn dc ra rn rc) rfl rfl rfl
 have o:=oA.bM s4 (fun c hc e=>by omega)
 exact ⟨_,rfl,s1,fun z oz=>Old.get oz s3,s3,x.aG o,o,af.aS _ s3⟩
theorem St.pairs {h0 g:af} {d f p q:Nat} {D:Dk} {S:Rf} {v:Value} {j1 j2:Option (Nat×Jn)} (x:St h0 g d f p q D S v j1 j2) (a b:Option (Nat×Jn)) (ka : ∀ j J,a=some (j,J)→cC g j d J∧JnOk J D∧h0.next≤j) (kb : ∀ j J,b=some (j,J)→cC g j d J∧JnOk J D∧h0.next≤j)
  (hne : ∀ j J j' J',a=some (j,J)→b=some (j',J')→j≠j') : ∃ g1 g2,bK 9 (ptr p 0) (.agg (prC a).toArray) g=some (undef,g1)∧bK 9 (ptr q 0) (.agg (prC b).toArray) g1=some (undef,g2)∧St h0 g2 d f p q D S v a b:=by
 have lo:=x.lo
 have hn0:g.n0≤h0.next:=by rw [x.bS.n0];exact h0.aF
 obtain ⟨s1,s2,s3,s4⟩:=pr_st (jn:=a) x.g1 (by omega)
 have gq:=s3.cB x.g2 (by omega)
 obtain ⟨t1,t2,t3,t4⟩:=pr_st (jn:=b) gq (by rw [s3.n0];omega)
 have gp:=t3.cB s2 (by omega)
 have pq:ei g q:=⟨_,x.g2,prC_plain _⟩
 have kk:Kept g ((g.set p (prC a)).set q (prC b)) (fun c=>c=p∨c=q):=(s3.mono (fun _ _ e => .inl e)).bM t3 (fun _ _ e => .inr e)
 have pl : ∀ c,c=p∨c=q→ei g c:=fun c hc=>by
  rcases hc with rfl|rfl
  ·exact s4
  ·exact pq
 have jne : ∀ {j J},cC g j d J → ¬(j=p∨j=q):=by
  intro j J xj hc
  have hl:(J.cells d).length=8:=rfl
  rcases hc with rfl|rfl
  ·have:=xj.get.symm.trans x.g1
   have:=congrArg List.length (Option.some.inj this)
   rw [fe,hl] at this;omega
  ·have:=xj.get.symm.trans x.g2
   have:=congrArg List.length (Option.some.inj this)
   rw [fe,hl] at this;omega
 refine ⟨_,_,s1,t1,kk.dk x.dk (by omega) (by omega),x.n,x.box.aG kk (by omega),x.p6.aG kk (by omega),?_,x.eq,gp,t2,fun j J e=>⟨(ka j J e).1.aG kk (jne (ka j J e).1),(ka j J e).2⟩,fun j J e=>⟨(kb j J e).1.aG kk (jne (kb j J e).1),(kb j J e).2⟩,hne,x.bS.bM kk (fun c hc e=>by omega),lo⟩
 obtain ⟨ai,ci,rfl,y1,y2,y3⟩:=x.xr
 exact ⟨ai,ci,rfl,kk.ef pl y1,y2,y3⟩
theorem fV {γ:Type} {o o':Out} {f:Value→af→Option γ} (h:o=o'):ad o f=ad o' f:=by rw [h]
attribute [local congr] fV
section
variable {h0:af} {v1:Value} {ops:List OpD} (O:gO h0 v1 ops) (h100:ops.length≤100) {d f p q k:Nat} {y:Nat→Value} {g:af} {i:Nat} {D:Dk} {S:Rf} {v:Value} {j1 j2:Option (Nat×Jn)} (A:ScAt h0 v1 ops d f p q k y g i D S v j1 j2) {ob oo:Nat} {da ra:Option Addr} {dn dc rn rc:Nat} {op:OpD} (hi:i<ops.length)
 (e2:bV 6 v1 (ao i)=some (ptr ob oo)) (e3 : ∀ h',Old h0 h'→bD 6 (ptr ob oo) h'=some (.agg (opC op da dn dc ra rn rc).toArray,h'))
include O h100 A hi e2 e3
set_option maxRecDepth 100000 in
theorem sc12 (hk:op.kind=12):c8 243 (scInv h0 v1 ops d f p q) scFin k (bu CD y g):=by
 have hll:=O.len
 obtain ⟨ga,a1,a2,a3,a4,sa,oa,_⟩:=A.st.op op da dn dc ra rn rc
 have c0:aV (ptr g.next 0) ga=some (.int .i64 12,ga):=aJ a4 (by rw [←hk];rfl) rfl
 have e8:bin Try.prog .eql 3 (.int .i64 12) (.int .i64 8)=some (.bool false):=by rw [bZ];rfl
 have e9:bin Try.prog .eql 3 (.int .i64 12) (.int .i64 9)=some (.bool false):=by rw [bZ];rfl
 have e10:bin Try.prog .eql 3 (.int .i64 12) (.int .i64 10)=some (.bool false):=by rw [bZ];rfl
 have e11:bin Try.prog .eql 3 (.int .i64 12) (.int .i64 11)=some (.bool false):=by rw [bZ];rfl
 have e12:bin Try.prog .eql 3 (.int .i64 12) (.int .i64 12)=some (.bool true):=by rw [bZ];rfl
 have l9:bD 9 (ptr p 0) ga=some (.agg (prC j1).toArray,ga):=cz sa.g1 (fe _) (prC_hole _)
 have l10:bD 9 (ptr q 0) ga=some (.agg (prC j2).toArray,ga):=cz sa.g2 (fe _) (prC_hole _)
 obtain ⟨g1,g2,s1,s2,sb⟩:=sa.pairs j2 j1 sa.k2 sa.k1 (fun j J j' J' e e' h=>sa.ne j' J' j J e' e h.symm)
 obtain ⟨hA,hB,hC,ai,ci,sl,t1,t2,t3,t4,t5,t6,t7,t8,t9,t10,t11,t12,t13,t14,ck1,ck2,ck3,sc⟩:=sb.tail
 unfold bu
 simp (maxSteps:=3000000) -implicitDefEqProofs only [A.bQ,A.y1,hll,gH,decide_eq_true hi,e2,e3 g A.st.bS,a1,a2,ax,Nat.zero_add,Nat.add_zero,c0,e8,e9,e10,e11,e12,A.y5,A.y7,A.y9,A.bH,l9,l10,s1,s2,ae,aj,
  t1,t2,t3,t4,t5,t6,t7,t8,t9,t10,t11,t12,t13,t14,ck1,ck2,ck3,bR,Bool.not_true,az,beq_self_eq_true,ay,bin4n,bne_self_eq_false,Bool.false_eq_true,if_false,dL,gR,Bool.and_true,dJ (show i+1≤9223372036854775807 by omega)]
 exact c8.next (k-1) (by have:=A.hik;omega) ⟨i+1,D,S,v,j2,j1,by have:=A.hik;omega,rfl,A.y1,A.y5,A.y7,A.y9,A.bH,sc⟩
end
end Go.Proofs.Ytcmfgmhadeeieaa

namespace Go.Proofs.Ytcmfgmhadeeieaa
open Go Go.Abs
end Go.Proofs.Ytcmfgmhadeeieaa

namespace Go.Proofs.Ytcmfgmhadeeieaa
open Go Go.Abs
theorem r28 {h:af} {d j:Nat} {D:Dk} {J:Jn} (x:aX h d D) (xj:cC h j d J) (h2:2≤D.n) (at_:Int) : ∃ w h',CD 28 [ptr j 0,.int .i64 at_] h=some (.tuple #[w,.int .i64 (J.rd D at_)],h')∧Old h h'∧cY h' h.next w (if J.rd D at_=0 then D.data J.aq at_.toNat (D.parts J.aq at_.toNat) else []):=by
 unfold Jn.rd
 cases hl:J.live D with
 |false=>exact ⟨_,h,r28_dead x xj _ hl,Kept.refl _ _,cY.nil _ _⟩
 |true=>
  cases hs:J.bc D at_ with
  |false=>
   obtain ⟨h',e,o⟩:=r28_no x xj h2 at_ hl hs
   exact ⟨_,h',e,o,cY.nil _ _⟩
  |true=>
   have hs':=hs
   unfold Jn.bc at hs'
   simp only [Bool.and_eq_true,decide_eq_true_eq] at hs'
   obtain ⟨m,rfl⟩ : ∃ m:Nat,at_=m:=⟨at_.toNat,by omega⟩
   obtain ⟨w,h',e,o,ow⟩:=r28_yes x xj h2 hl hs
   exact ⟨w,h',e,o,ow⟩
theorem ents_len (D:Dk) (J:Jn) : ∀ k at_,(D.cS J k at_).length≤k
 | 0,_=>Nat.le_refl _
 |k+1,at_=>by
  unfold Dk.cS
  split
  ·split
   ·rw [List.length_cons]
    have:=ents_len D J k (at_+D.parts J.aq at_)
    omega
   ·have:=ents_len D J k (at_+1)
    omega
  ·simp
section
variable {h0:af} {d j f m:Nat} {D:Dk} {J:Jn} {F:Nat→Prop} {v:Value} {S:Rf} (xd:aX h0 d D) (xj:cC h0 j d J) (xr:bT h0 F v S) (q:Eqd D S) (h4:4≤D.n)
include xd xj xr q h4
end
end Go.Proofs.Ytcmfgmhadeeieaa

namespace Go.Proofs.Ytcmfgmhadeeieaa
open Go Go.Abs
attribute [local congr] fV
def prH:Option (Nat×Jn)→Value
 |none => .pointer none
 |some (j,_)=>ptr j 0
def prJ:Option (Nat×Jn)→dV
 |none=>cT
 |some (_,J)=>J.rc
theorem prC_eq (jo:Option (Nat×Jn)):prC jo=prH jo::prJ jo:=by rcases jo with _|⟨j,J⟩<;>rfl
theorem prJ_len (jo:Option (Nat×Jn)):(prJ jo).length=8:=by rcases jo with _|⟨j,J⟩<;>rfl
theorem prJ_hole (jo:Option (Nat×Jn)):Abs.cN (prJ jo)=true:=by rcases jo with _|⟨j,J⟩<;>rfl
theorem prH_hole (jo:Option (Nat×Jn)):isHole (prH jo)=false:=by rcases jo with _|⟨j,J⟩<;>rfl
theorem pr_ld {g:af} {p:Nat} {jo:Option (Nat×Jn)} (e:g.get p=some (prC jo)):aV (ptr p 0) g=some (prH jo,g)∧bD 8 (ptr p 1) g=some (.agg (prJ jo).toArray,g):=by
 rw [prC_eq] at e
 refine ⟨aJ e rfl (prH_hole jo),?_⟩
 have hd:((prH jo::prJ jo).drop 1).take 8=prJ jo:=by
  rw [List.drop_succ_cons,List.drop_zero,List.take_of_length_le (by rw [prJ_len];exact Nat.le_refl _)]
 have:=ldN_at (n:=8) (o:=1) e (by rw [List.length_cons,prJ_len];exact Nat.le_refl _) (by rw [hd];exact prJ_hole jo)
 rw [hd] at this
 exact this
def rdE (jo:Option (Nat×Jn)) (D:Dk) (a:Int):Int:=match jo with
 |none=>1
 |some (_,J)=>J.rd D a
def rdL (jo:Option (Nat×Jn)) (D:Dk) (a:Int):List Nat:=match jo with
 |none => []
 |some (_,J)=>if J.rd D a=0 then D.data J.aq a.toNat (D.parts J.aq a.toNat) else []
theorem r28_any {g:af} {d:Nat} {D:Dk} {jo:Option (Nat×Jn)} (xd:aX g d D) (h4:4≤D.n) (k : ∀ j J,jo=some (j,J)→cC g j d J) (a:Int) : ∃ w h',CD 28 [prH jo,.int .i64 a] g=some (.tuple #[w,.int .i64 (rdE jo D a)],h')∧Old g h'∧cY h' g.next w (rdL jo D a):=by
 rcases jo with _|⟨j,J⟩
 ·exact ⟨_,g,r28_nil _ _,Kept.refl _ _,cY.nil _ _⟩
 ·exact r28 xd (k j J rfl) (by omega) a
theorem r47_miss {h:af} {F:Nat→Prop} {v:Value} {S:Rf} (x:bT h F v S) (a:Value) : ∃ h',CD 47 [v,.agg cT.toArray,a] h=some (.tuple #[.slice none 0 0,.int .i64 1],h')∧Old h h':=by
 obtain ⟨ai,c,g,g2,rfl,b1,b2,b3,b4,b5,b6⟩:=dj_begin x (k8:=cT) rfl
 have m7:aV (ptr (h.next+1) 7) g2=some (.bool true,g2):=aJ b4 rfl rfl
 refine ⟨g2,aK is47 rfl ((t47_eq _ _ _ _ _).trans ?_),b5⟩
 unfold t47
 simp -implicitDefEqProofs only [b1,b2,ae,ax,Nat.zero_add,aj,m7]
theorem r47_any {g:af} {F:Nat→Prop} {v:Value} {S:Rf} {D:Dk} {jo:Option (Nat×Jn)} (x:bT g F v S) (q:Eqd D S) (hl:D.aU.length=128*D.n) (h4:4≤D.n) (hn:D.n≤4096) (k : ∀ j J,jo=some (j,J)→J.aq≤1) (a:Int) :
  ∃ w h',CD 47 [v,.agg (prJ jo).toArray,.int .i64 a] g=some (.tuple #[w,.int .i64 (rdE jo D a)],h')∧Old g h'∧cY h' g.next w (rdL jo D a):=by
 rcases jo with _|⟨j,J⟩
 ·obtain ⟨h',e,o⟩:=r47_miss x (.int .i64 a)
  exact ⟨_,h',e,o,cY.nil _ _⟩
 ·exact r47 x q hl h4 hn (k j J rfl) a
theorem JnOk.of_n {J:Jn} {D D':Dk} (k:JnOk J D) (h:D'.n=D.n):JnOk J D':=⟨k.slot,k.aq,k.gen,k.known,fun hr=>by
 have:=k.ready hr
 have har:D'.ar=D.ar:=by unfold Dk.ar;rw [h]
 rw [har];exact this⟩
theorem St.updD {h0 g g1:af} {d f p q:Nat} {D D':Dk} {S S':Rf} {v v':Value} {j1 j2:Option (Nat×Jn)} (x:St h0 g d f p q D S v j1 j2) (k:cq d D.bb g g1) (xd:aX g1 d D') (hb:D'.bb=D.bb) (hn:D'.n=D.n) (eq:Eqd D' S') (xr:bT g1 (fun c=>c=d∨c=D.bb) v' S') :
  ∃ g2,bK 6 (ptr f 0) v' g1=some (undef,g2)∧St h0 g2 d f p q D' S' v' j1 j2∧Kept g1 g2 (fun c=>c=f):=by
 have lo:=x.lo
 have hn0:g.n0≤h0.next:=by rw [x.bS.n0];exact h0.aF
 have o1:Old h0 g1:=x.bS.bM k (fun c hc e=>by omega)
 obtain ⟨g2,s1,s2,s3,s4,s5,s6⟩:=(x.p6.aG k (by omega)).store xr (by rw [o1.n0];have:=h0.aF;omega)
 have jne : ∀ {j J},cC g j d J → ¬(j=d∨j=D.bb)∧j≠f:=by
  intro j J xj
  refine ⟨fun h=>h.elim (xj.ne_d x.dk) (xj.ne_bb x.dk),?_⟩
  rintro rfl
  obtain ⟨k',e1,e2,_⟩:=x.p6
  have:=e1.symm.trans xj.get
  have:=congrArg List.length (Option.some.inj this)
  have hl:(J.cells d).length=8:=rfl
  omega
 have kj : ∀ {j J},cC g j d J→cC g2 j d J:=fun xj=>(xj.aG k (jne xj).1).aG s5 (jne xj).2
 refine ⟨g2,s1,⟨s5.dk xd (by omega) (by rw [hb];omega),by rw [hn];exact x.n,s2,s3,by rw [hb];exact s4,eq,s5.cB (k.cB x.g1 (by omega)) (by omega),s5.cB (k.cB x.g2 (by omega)) (by omega),
  fun j J e=>⟨kj (x.k1 j J e).1,(x.k1 j J e).2.1.of_n hn,(x.k1 j J e).2.2⟩,fun j J e=>⟨kj (x.k2 j J e).1,(x.k2 j J e).2.1.of_n hn,(x.k2 j J e).2.2⟩,x.ne,o1.bM s5 (fun c hc e=>by omega),by rw [hb];exact lo⟩,s5⟩
section
variable {h0:af} {v1:Value} {ops:List OpD} (O:gO h0 v1 ops) (h100:ops.length≤100) {d f p q k:Nat} {y:Nat→Value} {g:af} {i:Nat} {D:Dk} {S:Rf} {v:Value} {j1 j2:Option (Nat×Jn)} (A:ScAt h0 v1 ops d f p q k y g i D S v j1 j2) {ob oo:Nat} {da ra:Option Addr} {dn dc rn rc:Nat} {op:OpD} (hi:i<ops.length)
 (e2:bV 6 v1 (ao i)=some (ptr ob oo)) (e3 : ∀ h',Old h0 h'→bD 6 (ptr ob oo) h'=some (.agg (opC op da dn dc ra rn rc).toArray,h'))
include O h100 A hi e2 e3
set_option maxRecDepth 100000 in
theorem sc11 (hk:op.kind=11):c8 243 (scInv h0 v1 ops d f p q) scFin k (bu CD y g):=by
 have hll:=O.len
 obtain ⟨ga,a1,a2,a3,a4,sa,oa,_⟩:=A.st.op op da dn dc ra rn rc
 have c0:aV (ptr g.next 0) ga=some (.int .i64 11,ga):=aJ a4 (by rw [←hk];rfl) rfl
 have e8:bin Try.prog .eql 3 (.int .i64 11) (.int .i64 8)=some (.bool false):=by rw [bZ];rfl
 have e9:bin Try.prog .eql 3 (.int .i64 11) (.int .i64 9)=some (.bool false):=by rw [bZ];rfl
 have e10:bin Try.prog .eql 3 (.int .i64 11) (.int .i64 10)=some (.bool false):=by rw [bZ];rfl
 have e11:bin Try.prog .eql 3 (.int .i64 11) (.int .i64 11)=some (.bool true):=by rw [bZ];rfl
 obtain ⟨l1,_⟩:=pr_ld sa.g1
 have cA : ∀ z,Old ga z→aV (ptr g.next 1) z=some (.int .i64 op.A,z):=fun z oz=>aJ (a3 z oz) rfl rfl
 obtain ⟨w,g1,e28,o1,ow⟩:=r28_any sa.dk sa.n.1 (fun j J e=>(sa.k1 j J e).1) op.A
 have s1:=sa.aG o1
 obtain ⟨_,l8⟩:=pr_ld s1.g1
 obtain ⟨u,g2,e47,o2,ou⟩:=r47_any s1.xr s1.eq s1.dk.len s1.n.1 s1.dk.small (fun j J e=>(s1.k1 j J e).2.1.aq) op.A
 have s2:=s1.aG o2
 have ow2:=ow.aG o2 (fun _ _ h=>h)
 obtain ⟨aw,cw,rfl,w1,_⟩:=ow2.bytes
 obtain ⟨au,cu,rfl,w2,_⟩:=ou.bytes
 have hee:bin Try.prog .eql 28 (.int .i64 (rdE j1 D op.A)) (.int .i64 (rdE j1 D op.A))=some (.bool true):=by rw [bZ];simp
 have hss:bin Try.prog .eql 9 (.string (iz (rdL j1 D op.A))) (.string (iz (rdL j1 D op.A)))=some (.bool true):=by rw [bin_str_eql];simp
 obtain ⟨hA,hB,hC,ai,ci,sl,t1,t2,t3,t4,t5,t6,t7,t8,t9,t10,t11,t12,t13,t14,ck1,ck2,ck3,sc⟩:=s2.tail
 unfold bu
 simp (maxSteps:=3000000) -implicitDefEqProofs only [A.bQ,A.y1,hll,gH,decide_eq_true hi,e2,e3 g A.st.bS,a1,a2,ax,Nat.zero_add,Nat.add_zero,c0,e8,e9,e10,e11,A.y5,A.y7,A.y9,A.bH,l1,cA ga (Kept.refl _ _),e28,xt20,xt21,s1.box.ld,l8,cA g1 o1,e47,hee,eP w1,eP w2,hss,if_true,ae,aj,
  t1,t2,t3,t4,t5,t6,t7,t8,t9,t10,t11,t12,t13,t14,ck1,ck2,ck3,bR,Bool.not_true,az,beq_self_eq_true,ay,bin4n,bne_self_eq_false,Bool.false_eq_true,if_false,dL,gR,Bool.and_true,dJ (show i+1≤9223372036854775807 by omega)]
 exact c8.next (k-1) (by have:=A.hik;omega) ⟨i+1,D,S,v,j1,j2,by have:=A.hik;omega,rfl,A.y1,A.y5,A.y7,A.y9,A.bH,sc⟩
set_option maxRecDepth 100000 in
theorem scDev (hk:op.kind≠8∧op.kind≠9∧op.kind≠10∧op.kind≠11∧op.kind≠12) (hdat:av da dn h0=some op.data) (hd21:op.data.length≤21000) (hm:op.mask<256) (hA':fq op.A=true):c8 243 (scInv h0 v1 ops d f p q) scFin k (bu CD y g):=by
 have hll:=O.len
 obtain ⟨ga,a1,a2,a3,a4,sa,oa,_⟩:=A.st.op op da dn dc ra rn rc
 have c0:aV (ptr g.next 0) ga=some (.int .i64 op.kind,ga):=aJ a4 rfl rfl
 have lop:=cz (n:=6) a4 rfl rfl
 have ek : ∀ b:Int,op.kind≠b→bin Try.prog .eql 3 (.int .i64 op.kind) (.int .i64 b)=some (.bool false):=fun b hb=>by
  rw [bZ]
  have:(op.kind==b)=false:=by simpa using hb
  rw [this]
 have hdn:=(aB hdat).1
 have lo:=sa.lo
 have hda : ∀ y,da=some y→0<dn → ¬(y.block=d∨y.block=D.bb):=by
  intro y hy hpos
  obtain ⟨b,off,s,e,hlt⟩:=er hdat hpos
  rw [e] at hy
  cases hy
  show ¬(b=d∨b=D.bb)
  omega
 obtain ⟨v',g1,D',S',e49,x1,b1,n1,q1,r1,k1⟩:=r49 (kind:=op.kind) (B:=op.B) (ra:=ra) (rn:=rn) (rc:=rc) (dc:=dc) sa.dk sa.n.1 sa.dk.small sa.eq sa.xr (Old.bytes sa.bS hdat) hda (by omega) hm hA'
 have e49:CD 49 [ptr d 0,v,.agg (opC op da dn dc ra rn rc).toArray] ga=some (.tuple #[v',.bool true],g1):=e49
 obtain ⟨g2,s1,sb,_⟩:=sa.updD k1 x1 b1 n1 q1 r1
 obtain ⟨hA,hB,hC,ai,ci,sl,t1,t2,t3,t4,t5,t6,t7,t8,t9,t10,t11,t12,t13,t14,ck1,ck2,ck3,sc⟩:=sb.tail
 unfold bu
 simp (maxSteps:=3000000) -implicitDefEqProofs only [A.bQ,A.y1,hll,gH,decide_eq_true hi,e2,e3 g A.st.bS,a1,a2,ax,Nat.zero_add,Nat.add_zero,c0,ek 8 hk.1,ek 9 hk.2.1,ek 10 hk.2.2.1,ek 11 hk.2.2.2.1,ek 12 hk.2.2.2.2,A.y5,A.y7,A.y9,A.bH,sa.box.ld,lop,e49,xt20,xt21,s1,ae,aj,
  t1,t2,t3,t4,t5,t6,t7,t8,t9,t10,t11,t12,t13,t14,ck1,ck2,ck3,bR,Bool.not_true,az,beq_self_eq_true,ay,bin4n,bne_self_eq_false,Bool.false_eq_true,if_false,dL,gR,Bool.and_true,dJ (show i+1≤9223372036854775807 by omega)]
 exact c8.next (k-1) (by have:=A.hik;omega) ⟨i+1,D',S',v',j1,j2,by have:=A.hik;omega,rfl,A.y1,A.y5,A.y7,A.y9,A.bH,sc⟩
end
end Go.Proofs.Ytcmfgmhadeeieaa

namespace Go.Proofs.Ytcmfgmhadeeieaa
open Go Go.Abs
attribute [local congr] fV
theorem append_jok {J:Jn} {D:Dk} {r:List Nat} (ok:JnOk J D) (hn:(J.append D r).2.1.n=D.n):JnOk (J.append D r).2.2 (J.append D r).2.1:=by
 refine JnOk.of_n (D:=D) ?_ hn
 unfold Jn.append
 split
 ·exact ok
 split
 ·exact ok
 split
 ·exact ok
 split
 ·exact ok
 rename_i h1 h2 h3 h4
 split
 ·refine ⟨ok.slot,ok.aq,ok.gen,ok.known,fun hr => ?_⟩
  have hr:J.ready=true:=hr
  have:=ok.ready hr
  have hl:J.live D=true:=by simpa using h1
  have hf:J.free D=D.ar-J.fin:=by unfold Jn.free;rw [hl,hr];rfl
  rw [hf] at h4
  show J.fin+a8 r.length≤D.ar∧0≤J.slot
  omega
 ·exact ok
theorem St.updJ {h0 g g1 g2:af} {d f p q j:Nat} {D D':Dk} {S S':Rf} {v v':Value} {J J':Jn} {j2:Option (Nat×Jn)} (x:St h0 g d f p q D S v (some (j,J)) j2) (k:JdOnly j d D.bb g g1) (xd:aX g1 d D') (hb:D'.bb=D.bb) (hn:D'.n=D.n) (xj:cC g1 j d J') (ok:JnOk J' D') (o:Old g1 g2) (eq:Eqd D' S') (xr:bT g2 (fun c=>c=d∨c=D.bb) v' S') :
  ∃ g3 g4,bK 6 (ptr f 0) v' g2=some (undef,g3)∧bK 8 (ptr p 1) (.agg J'.rc.toArray) g3=some (undef,g4)∧St h0 g4 d f p q D' S' v' (some (j,J')) j2∧Kept g2 g4 (fun c=>c=f∨c=p):=by
 have lo:=x.lo
 obtain ⟨xj0,_,hj0⟩:=x.k1 j J rfl
 have jf:j≠f:=by
  rintro rfl
  obtain ⟨k',e1,e2,_⟩:=x.p6
  have:=e1.symm.trans xj0.get
  have:=congrArg List.length (Option.some.inj this)
  have hl:(J.cells d).length=8:=rfl
  omega
 have jp : ∀ {j' J'' r jo},cC g j' d J''→g.get r=some (prC jo)→j'≠r:=by
  rintro j' J'' r jo xj' e rfl
  have:=xj'.get.symm.trans e
  have:=congrArg List.length (Option.some.inj this)
  have hl:(J''.cells d).length=8:=rfl
  rw [fe,hl] at this
  omega
 have j2f : ∀ {j' J''},cC g j' d J''→j'≠f:=by
  rintro j' J'' xj' rfl
  obtain ⟨k',e1,e2,_⟩:=x.p6
  have:=e1.symm.trans xj'.get
  have:=congrArg List.length (Option.some.inj this)
  have hl:(J''.cells d).length=8:=rfl
  omega
 have hjp:=jp xj0 x.g1
 have hjq:=jp xj0 x.g2
 have k12:JdOnly j d D.bb g g2:=k.bM o (fun _ _ h=>h.elim)
 have o2:Old h0 g2:=x.bS.bM k12 (fun c hc e=>by omega)
 have hn0:g2.n0≤h0.next:=by rw [o2.n0];exact h0.aF
 obtain ⟨g3,s1,s2,s3,s4,s5,s6⟩:=(x.p6.aG k12 (by omega)).store xr (by omega)
 have gp:=s5.cB (k12.cB x.g1 (by omega)) (by omega)
 have gq:=s5.cB (k12.cB x.g2 (by omega)) (by omega)
 have hk0:g3.n0≤p:=by rw [s5.n0];omega
 have e8:bK 8 (ptr p 1) (.agg J'.rc.toArray) g3=some (undef,g3.set p (prC (some (j,J')))):=by
  unfold bK ptr
  have hc:(Value.agg J'.rc.toArray).cells=J'.rc.toArray:=rfl
  have hl:J'.rc.length=8:=rfl
  simp only [hc,List.size_toArray,hl,if_true]
  unfold stL
  simp only [gp]
  rw [if_pos (by
   rw [fe]
   simp [hk0,hl,gM])]
  rfl
 have gp':(g3.set p (prC (some (j,J')))).get p=some (prC (some (j,J'))):=af.a9 hk0 gp _
 have k3:Kept g3 (g3.set p (prC (some (j,J')))) (fun c=>c=p):=Kept.set hk0 gp (.inr rfl)
 have pl : ∀ c,c=p→ei g3 c:=fun c hc=>by subst hc;exact ⟨_,gp,prC_plain _⟩
 generalize g3.set p (prC (some (j,J')))=g4 at *
 have xj4:cC g4 j d J':=((xj.aG o (fun h=>h)).aG s5 jf).aG k3 hjp
 refine ⟨g3,g4,s1,e8,⟨k3.dk (s5.dk (Old.dk o xd) (by omega) (by rw [hb];omega)) (by omega) (by rw [hb];omega),by rw [hn];exact x.n,s2.aG k3 (by omega),s3.aG k3 (by omega),?_,eq,gp',k3.cB gq (by omega),?_,?_,?_,(o2.bM s5 (fun c hc e=>by omega)).bM k3 (fun c hc e=>by omega),by rw [hb];exact lo⟩,(s5.mono (fun _ _ e => .inl e)).bM k3 (fun _ _ e => .inr e)⟩
 ·obtain ⟨ai,ci,rfl,y1,y2,y3⟩:=s4
  rw [hb]
  exact ⟨ai,ci,rfl,k3.ef pl y1,y2,y3⟩
 ·intro j' J'' e
  cases e
  exact ⟨xj4,ok,hj0⟩
 ·intro j' J'' e
  obtain ⟨m1,m2,m3⟩:=x.k2 j' J'' e
  have hne:j'≠j:=fun h=>x.ne j J j' J'' rfl e h.symm
  refine ⟨(((m1.aG k12 (fun hc => ?_)).aG s5 (j2f m1)).aG k3 (jp m1 x.g1)),m2.of_n hn,m3⟩
  rcases hc with hc|hc|hc
  ·exact hne hc
  ·exact m1.ne_d x.dk hc
  ·exact m1.ne_bb x.dk hc
 ·intro a b a' b' e e'
  cases e
  exact x.ne j J a' b' rfl e'
theorem St.same {h0 g g1:af} {d f p q:Nat} {D:Dk} {S:Rf} {v:Value} {j2:Option (Nat×Jn)} (x:St h0 g d f p q D S v none j2) (o:Old g g1) :
  ∃ g3 g4,bK 6 (ptr f 0) v g1=some (undef,g3)∧bK 8 (ptr p 1) (.agg cT.toArray) g3=some (undef,g4)∧St h0 g4 d f p q D S v none j2:=by
 have x1:=x.aG o
 have lo:=x.lo
 have hn0:g1.n0≤h0.next:=by rw [x1.bS.n0];exact h0.aF
 obtain ⟨g3,s1,sb,_⟩:=x1.updD (Kept.refl _ _) x1.dk rfl rfl x1.eq x1.xr
 have gp:=sb.g1
 have hn3:g3.n0≤h0.next:=by rw [sb.bS.n0];exact h0.aF
 have hk0:g3.n0≤p:=by omega
 have e8:bK 8 (ptr p 1) (.agg cT.toArray) g3=some (undef,g3.set p (prC none)):=by
  unfold bK ptr
  have hc:(Value.agg cT.toArray).cells=cT.toArray:=rfl
  have hl:cT.length=8:=rfl
  simp only [hc,List.size_toArray,hl,if_true]
  unfold stL
  simp only [gp]
  have ho:bI cT=true:=rfl
  rw [if_pos (by
   rw [fe]
   simp [hk0,hl,ho])]
  rfl
 have gp':(g3.set p (prC none)).get p=some (prC none):=af.a9 hk0 gp _
 have k3:Kept g3 (g3.set p (prC none)) (fun c=>c=p):=Kept.set hk0 gp (.inr rfl)
 have pl : ∀ c,c=p→ei g3 c:=fun c hc=>by subst hc;exact ⟨_,gp,prC_plain _⟩
 have jp : ∀ {j' J''},cC g3 j' d J''→j'≠p:=by
  rintro j' J'' xj' rfl
  have:=xj'.get.symm.trans gp
  have:=congrArg List.length (Option.some.inj this)
  have hl:(J''.cells d).length=8:=rfl
  rw [fe,hl] at this
  omega
 refine ⟨g3,_,s1,e8,k3.dk sb.dk (by omega) (by omega),sb.n,sb.box.aG k3 (by omega),sb.p6.aG k3 (by omega),?_,sb.eq,gp',k3.cB sb.g2 (by omega),fun j J e=>(by cases e),fun j J e=>⟨(sb.k2 j J e).1.aG k3 (jp (sb.k2 j J e).1),(sb.k2 j J e).2⟩,fun j J j' J' e=>(by cases e),sb.bS.bM k3 (fun c hc e=>by omega),lo⟩
 obtain ⟨ai,ci,rfl,y1,y2,y3⟩:=sb.xr
 exact ⟨ai,ci,rfl,k3.ef pl y1,y2,y3⟩
theorem St.jne {h0 g:af} {d f p q:Nat} {D:Dk} {S:Rf} {v:Value} {j1 j2:Option (Nat×Jn)} (x:St h0 g d f p q D S v j1 j2) {j:Nat} {J:Jn} (xj:cC g j d J):j≠f∧j≠p∧j≠q∧j≠d∧j≠D.bb:=by
 have hl:(J.cells d).length=8:=rfl
 refine ⟨?_,?_,?_,xj.ne_d x.dk,xj.ne_bb x.dk⟩
 ·rintro rfl
  obtain ⟨k',e1,e2,_⟩:=x.p6
  have:=congrArg List.length (Option.some.inj (e1.symm.trans xj.get))
  omega
 ·rintro rfl
  have:=congrArg List.length (Option.some.inj (xj.get.symm.trans x.g1))
  rw [fe,hl] at this;omega
 ·rintro rfl
  have:=congrArg List.length (Option.some.inj (xj.get.symm.trans x.g2))
  rw [fe,hl] at this;omega
theorem not_bytes {h:af} {b n:Nat} {y:Addr} {l:List Nat} (p:ei h b) (e:av (some y) n h=some l) (hn:0<n):y.block≠b:=by
 intro hb
 obtain ⟨c,h1,h2⟩:=p
 subst hb
 exact bytes_apart e h1 h2 y rfl hn rfl
theorem St.rfKept {h0 g g1:af} {d f p q j:Nat} {D:Dk} {S:Rf} {v:Value} {j1 j2:Option (Nat×Jn)} {J:Jn} (x:St h0 g d f p q D S v j1 j2) (xj:cC g j d J) (k:JdOnly j d D.bb g g1):bT g1 (fun c=>c=d∨c=D.bb) v S:=by
 obtain ⟨ai,ci,rfl,y1,y2,y3⟩:=x.xr
 refine ⟨ai,ci,rfl,k.bytes y1 (fun y hy hn hB => ?_),y2,y3⟩
 subst hy
 rcases hB with hB|hB
 ·exact not_bytes ⟨_,xj.get,J.plain d⟩ y1 hn hB
 ·exact y3 _ rfl hn hB
section
variable {h0:af} {v1:Value} {ops:List OpD} (O:gO h0 v1 ops) (h100:ops.length≤100) {d f p q k:Nat} {y:Nat→Value} {g:af} {i:Nat} {D:Dk} {S:Rf} {v:Value} {j1 j2:Option (Nat×Jn)} (A:ScAt h0 v1 ops d f p q k y g i D S v j1 j2) {ob oo:Nat} {da ra:Option Addr} {dn dc rn rc:Nat} {op:OpD} (hi:i<ops.length)
 (e2:bV 6 v1 (ao i)=some (ptr ob oo)) (e3 : ∀ h',Old h0 h'→bD 6 (ptr ob oo) h'=some (.agg (opC op da dn dc ra rn rc).toArray,h'))
include O h100 A hi e2 e3
set_option maxRecDepth 100000 in
set_option maxHeartbeats 4000000 in
theorem sc10 (hk:op.kind=10) (hdat:av da dn h0=some op.data) (hz:goodZ da dn dc) (hd21:op.data.length≤21000):c8 243 (scInv h0 v1 ops d f p q) scFin k (bu CD y g):=by
 have hll:=O.len
 obtain ⟨ga,a1,a2,a3,a4,sa,oa,_⟩:=A.st.op op da dn dc ra rn rc
 have c0:aV (ptr g.next 0) ga=some (.int .i64 10,ga):=aJ a4 (by rw [←hk];rfl) rfl
 have e8:bin Try.prog .eql 3 (.int .i64 10) (.int .i64 8)=some (.bool false):=by rw [bZ];rfl
 have e9:bin Try.prog .eql 3 (.int .i64 10) (.int .i64 9)=some (.bool false):=by rw [bZ];rfl
 have e10:bin Try.prog .eql 3 (.int .i64 10) (.int .i64 10)=some (.bool true):=by rw [bZ];rfl
 obtain ⟨l1,_⟩:=pr_ld sa.g1
 have hdn:=(aB hdat).1
 have lo:=sa.lo
 have hn0:h0.n0≤h0.next:=h0.aF
 have oB:Old ga (ga.alloc []):=Kept.alloc _ _ _
 have nB:(ga.alloc []).next=ga.next+1:=af.aW ..
 have own0:cY (ga.alloc []) ga.next (.slice (some ⟨ga.next,0,none⟩) 0 0) []:=⟨cl.empty _ (Nat.le_refl _),by simp⟩
 obtain ⟨w,gb,f1,f2,f3,_⟩:=dK (c:=dc) own0 (by rw [oB.n0];exact ga.aF) (by omega) (Old.bytes (sa.bS.trans oB) hdat) (by simp;omega)
 rw [List.nil_append] at f2
 have hbase:dX (.slice (some ⟨ga.next,0,none⟩) 0 0)=some ga.next:=rfl
 have ob1:Old ga gb:=oB.bM f3 (fun c hc hb=>by rw [hbase] at hb;have hb:=Option.some.inj hb;omega)
 have sb:=sa.aG ob1
 obtain ⟨aw,cw,rfl,w1,w2,w3,_⟩:=f2.bytes
 have l1b:=(pr_ld sb.g1).1
 have ckH:bU true (some (prH j1,gb)) (prH j1)=true:=du rfl (by rcases j1 with _|⟨j,J⟩<;>simp [prH,ptr,veq])
 have cD : ∀ z,Old ga z→aV (ptr g.next 4) z=some (.slice da dn dc,z):=fun z oz=>aJ (a3 z oz) rfl rfl
 rcases j1 with _|⟨j,J⟩
 ·have e27:=r27_nil gb (.slice aw op.data.length cw)
  have e27:CD 27 [prH none,.slice aw op.data.length cw] gb=some (.tuple #[.int .i64 0,.int .i64 1],gb):=e27
  obtain ⟨_,l8⟩:=pr_ld sb.g1
  have l8:bD 8 (ptr p 1) gb=some (.agg cT.toArray,gb):=l8
  obtain ⟨g2,e42,xr2,o2⟩:=r42_miss sb.xr (.slice da dn dc)
  obtain ⟨g3,g4,s3,s4,sE⟩:=sb.same o2
  have hee:bin Try.prog .eql 28 (.int .i64 1) (.int .i64 1)=some (.bool true):=by rw [bZ];rfl
  have hzz:bin Try.prog .eql 3 (.int .i64 0) (.int .i64 0)=some (.bool true):=by rw [bZ];rfl
  have hz0 : ∀ a b c d:Value,aA (.tuple #[a,b,c,d]) 0=some a:=fun _ _ _ _=>rfl
  have hz1 : ∀ a b c d:Value,aA (.tuple #[a,b,c,d]) 1=some b:=fun _ _ _ _=>rfl
  have hz2 : ∀ a b c d:Value,aA (.tuple #[a,b,c,d]) 2=some c:=fun _ _ _ _=>rfl
  have hz3 : ∀ a b c d:Value,aA (.tuple #[a,b,c,d]) 3=some d:=fun _ _ _ _=>rfl
  obtain ⟨hA,hB,hC,ai,ci,sl,t1,t2,t3,t4,t5,t6,t7,t8,t9,t10,t11,t12,t13,t14,ck1,ck2,ck3,sc⟩:=sE.tail
  unfold bu
  simp (maxSteps:=3000000) -implicitDefEqProofs only [A.bQ,A.y1,hll,gH,decide_eq_true hi,e2,e3 g A.st.bS,a1,a2,ax,Nat.zero_add,Nat.add_zero,c0,e8,e9,e10,A.y5,A.y7,A.y9,A.bH,l1,cD ga (Kept.refl _ _),bsl_bytes,f1,e27,l1b,ckH,sb.box.ld,l8,cD gb ob1,e42,hz0,hz1,hz2,hz3,s3,s4,hee,hzz,if_true,xt20,xt21,ae,aj,
   t1,t2,t3,t4,t5,t6,t7,t8,t9,t10,t11,t12,t13,t14,ck1,ck2,ck3,bR,Bool.not_true,az,beq_self_eq_true,ay,bin4n,bne_self_eq_false,Bool.false_eq_true,if_false,dL,gR,Bool.and_true,dJ (show i+1≤9223372036854775807 by omega)]
  exact c8.next (k-1) (by have:=A.hik;omega) ⟨i+1,D,S,v,none,j2,by have:=A.hik;omega,rfl,A.y1,A.y5,A.y7,A.y9,A.bH,sc⟩
 ·obtain ⟨xj,ok,hj0⟩:=sb.k1 j J rfl
  obtain ⟨w27,g1,e27,x1,xj1,hb1,hn1,k1,rfl⟩:=r27 sb.dk xj (by have:=sb.n;omega) ok w1 w2 (by omega) (fun y hy _=>by have:=w3 y hy;have:=sa.dk.blt;omega)
  have e27:CD 27 [prH (some (j,J)),.slice aw op.data.length cw] gb=some (.tuple #[ao (if (J.append D op.data).1=0 then J.fin else 0),.int .i64 (J.append D op.data).1],g1):=e27
  obtain ⟨jf,jp,jq,jd,jb⟩:=sb.jne xj
  have gop:=a3 gb ob1
  have jop:j≠g.next:=by
   rintro rfl
   have hl:(J.cells d).length=8:=rfl
   have:=congrArg List.length (Option.some.inj (gop.symm.trans xj.get))
   rw [hl] at this
   cases this
  have qlt:=A.st.bS.next
  have q2lt:=af.aS g A.st.g2
  have gop1:=k1.cB gop (fun hc=>hc.elim (fun h=>jop h.symm) (fun h=>by omega))
  have o1:Old h0 g1:=sb.bS.bM k1 (fun c hc e=>by omega)
  obtain ⟨v',S',g2,e42,xr2,q2,o2⟩:=r42 (dok:=sb.dk.dok sb.n.1) (c:=dc) (sb.rfKept xj k1) (fun b hb=>by have:=k1.next;have:=sb.dk.blt;have:=sb.dk.lt;omega) sb.eq ok (Old.bytes o1 hdat) hz (by omega)
  obtain ⟨g3,g4,s3,s4,sE,_⟩:=sb.updJ k1 x1 hb1 hn1 xj1 (append_jok ok hn1) o2 q2 xr2
  have l6:=(sb.box.aG k1 (by omega)).ld
  obtain ⟨_,l8⟩:=pr_ld (k1.cB sb.g1 (by omega))
  have l8:bD 8 (ptr p 1) g1=some (.agg J.rc.toArray,g1):=l8
  have cD1:aV (ptr g.next 4) g1=some (.slice da dn dc,g1):=aJ gop1 rfl rfl
  generalize J.append D op.data=AP at *
  have hee:bin Try.prog .eql 28 (.int .i64 AP.1) (.int .i64 AP.1)=some (.bool true):=by rw [bZ];simp
  have hzz : ∀ n:Nat,bin Try.prog .eql 3 (ao n) (ao n)=some (.bool true):=fun n=>by rw [eql3];simp
  have hz0 : ∀ a b c d:Value,aA (.tuple #[a,b,c,d]) 0=some a:=fun _ _ _ _=>rfl
  have hz1 : ∀ a b c d:Value,aA (.tuple #[a,b,c,d]) 1=some b:=fun _ _ _ _=>rfl
  have hz2 : ∀ a b c d:Value,aA (.tuple #[a,b,c,d]) 2=some c:=fun _ _ _ _=>rfl
  have hz3 : ∀ a b c d:Value,aA (.tuple #[a,b,c,d]) 3=some d:=fun _ _ _ _=>rfl
  obtain ⟨hA,hB,hC,ai,ci,sl,t1,t2,t3,t4,t5,t6,t7,t8,t9,t10,t11,t12,t13,t14,ck1,ck2,ck3,sc⟩:=sE.tail
  unfold bu
  simp (maxSteps:=3000000) -implicitDefEqProofs only [A.bQ,A.y1,hll,gH,decide_eq_true hi,e2,e3 g A.st.bS,a1,a2,ax,Nat.zero_add,Nat.add_zero,c0,e8,e9,e10,A.y5,A.y7,A.y9,A.bH,l1,cD ga (Kept.refl _ _),bsl_bytes,f1,e27,l1b,ckH,l6,l8,cD1,e42,hz0,hz1,hz2,hz3,s3,s4,hee,hzz,if_true,xt20,xt21,ae,aj,
   t1,t2,t3,t4,t5,t6,t7,t8,t9,t10,t11,t12,t13,t14,ck1,ck2,ck3,bR,Bool.not_true,az,beq_self_eq_true,ay,bin4n,bne_self_eq_false,Bool.false_eq_true,if_false,dL,gR,Bool.and_true,dJ (show i+1≤9223372036854775807 by omega)]
  exact c8.next (k-1) (by have:=A.hik;omega) ⟨i+1,_,S',v',some (j,AP.2.2),j2,by have:=A.hik;omega,rfl,A.y1,A.y5,A.y7,A.y9,A.bH,sc⟩
end
end Go.Proofs.Ytcmfgmhadeeieaa

namespace Go.Proofs.Ytcmfgmhadeeieaa
open Go Go.Abs
attribute [local congr] fV
theorem rewrite_jok {J:Jn} {D:Dk} {vals:List (List Nat)} (ok:JnOk J D) (hn:(J.rewrite D vals).2.1.n=D.n):JnOk (J.rewrite D vals).2.2.1 (J.rewrite D vals).2.1:=by
 refine JnOk.of_n (D:=D) ?_ hn
 unfold Jn.rewrite
 split
 ·exact ok
 split
 ·exact ok
 split
 ·exact ok
 rename_i h1 h2 h3
 split
 ·split
  ·have hk:=ok.known
   refine ⟨?_,J.newArea_le,by show J.known+1<_;omega,by show J.known+1<_;omega,fun _ => ?_⟩
   ·show J.bq = -1∨J.bq=0∨J.bq=1
    have:=ok.slot
    unfold Jn.bq
    split<;>omega
   ·show aP vals≤D.ar∧0≤J.bq
    refine ⟨by omega,?_⟩
    have:=ok.slot
    unfold Jn.bq
    split<;>omega
  ·exact ok
 ·exact ok
theorem rwAll_len (aq gen:Nat) : ∀ (vals:List (List Nat)) (at_:Nat) (D:Dk) (ps:List Nat),(Dk.cj aq gen vals at_ D ps).2.2.2.length≤ps.length+vals.length
 | [],at_,D,ps=>by show ps.length≤_;omega
 |r::rs,at_,D,ps=>by
  unfold Dk.cj
  split
  ·have:=rwAll_len aq gen rs (at_+a8 r.length) (D.cd aq gen at_ r).2 (ps ++ [at_])
   rw [List.length_append] at this
   simp only [List.length_cons,List.length_nil] at this ⊢
   omega
  ·show ps.length≤_
   omega
theorem rewrite_len (J:Jn) (D:Dk) (vals:List (List Nat)):(J.rewrite D vals).2.2.2.length≤vals.length:=by
 unfold Jn.rewrite
 have h:=rwAll_len J.aM (J.known+1) vals 0 D []
 split
 ·exact Nat.zero_le _
 split
 ·exact Nat.zero_le _
 split
 ·exact Nat.zero_le _
 split
 ·split
  ·simpa using h
  ·exact Nat.zero_le _
 ·exact Nat.zero_le _
theorem r23_nil (h:af) (w:Value):CD 23 [.pointer none,w] h=some (.tuple #[.slice none 0 0,.int .i64 1],h):=by
 refine aK is23 rfl ((t23_eq _ _ _ _).trans ?_)
 unfold t23
 simp -implicitDefEqProofs only [ae,r58_nil,aj,cW,show ((1:Int) != 0)=true from rfl]
section
variable {h0:af} {v1:Value} {ops:List OpD} (O:gO h0 v1 ops) (h100:ops.length≤100) {d f p q k:Nat} {y:Nat→Value} {g:af} {i:Nat} {D:Dk} {S:Rf} {v:Value} {j1 j2:Option (Nat×Jn)} (A:ScAt h0 v1 ops d f p q k y g i D S v j1 j2) {ob oo:Nat} {da ra:Option Addr} {dn dc rn rc:Nat} {op:OpD} (hi:i<ops.length)
 (e2:bV 6 v1 (ao i)=some (ptr ob oo)) (e3 : ∀ h',Old h0 h'→bD 6 (ptr ob oo) h'=some (.agg (opC op da dn dc ra rn rc).toArray,h'))
include O h100 A hi e2 e3
set_option maxRecDepth 100000 in
set_option maxHeartbeats 4000000 in
theorem sc9 (hk:op.kind=9) (R:gh h0 (.slice ra rn rc) op.dh) (h40:op.dh.length≤40) (h21 : ∀ r∈op.dh,r.length≤21000):c8 243 (scInv h0 v1 ops d f p q) scFin k (bu CD y g):=by
 have hll:=O.len
 obtain ⟨ga,a1,a2,a3,a4,sa,oa,_⟩:=A.st.op op da dn dc ra rn rc
 have c0:aV (ptr g.next 0) ga=some (.int .i64 9,ga):=aJ a4 (by rw [←hk];rfl) rfl
 have e8:bin Try.prog .eql 3 (.int .i64 9) (.int .i64 8)=some (.bool false):=by rw [bZ];rfl
 have e9:bin Try.prog .eql 3 (.int .i64 9) (.int .i64 9)=some (.bool true):=by rw [bZ];rfl
 obtain ⟨l1,_⟩:=pr_ld sa.g1
 have lo:=sa.lo
 have Ra:=R.bS sa.bS
 obtain ⟨w,cells,gb,e24,ow,E,ob1⟩:=r24 Ra.S (by omega) (fun r hr=>by have:=h21 r hr;omega)
 have sb:=sa.aG ob1
 have l1b:=(pr_ld sb.g1).1
 have ckH:bU true (some (prH j1,gb)) (prH j1)=true:=du rfl (by rcases j1 with _|⟨j,J⟩<;>simp [prH,ptr,veq])
 have cR : ∀ z,Old ga z→aV (ptr g.next 5) z=some (.slice ra rn rc,z):=fun z oz=>aJ (a3 z oz) rfl rfl
 have hz0 : ∀ a b c d:Value,aA (.tuple #[a,b,c,d]) 0=some a:=fun _ _ _ _=>rfl
 have hz1 : ∀ a b c d:Value,aA (.tuple #[a,b,c,d]) 1=some b:=fun _ _ _ _=>rfl
 have hz2 : ∀ a b c d:Value,aA (.tuple #[a,b,c,d]) 2=some c:=fun _ _ _ _=>rfl
 have hz3 : ∀ a b c d:Value,aA (.tuple #[a,b,c,d]) 3=some d:=fun _ _ _ _=>rfl
 have hee : ∀ e:Int,bin Try.prog .eql 28 (.int .i64 e) (.int .i64 e)=some (.bool true):=fun e=>by rw [bZ];simp
 rcases j1 with _|⟨j,J⟩
 ·have e23:CD 23 [prH none,w] gb=some (.tuple #[.slice none 0 0,.int .i64 1],gb):=r23_nil gb w
  obtain ⟨_,l8⟩:=pr_ld sb.g1
  have l8:bD 8 (ptr p 1) gb=some (.agg cT.toArray,gb):=l8
  obtain ⟨g2,e40,xr2,o2⟩:=r40_miss sb.xr (.slice ra rn rc)
  obtain ⟨g3,g4,s3,s4,sE⟩:=sb.same o2
  have e52:=r52 (h:=g4) (N:=0) (M:=0) (v := .slice none 0 0) (w := .slice none 0 0) (ps := []) (cl.nil _ _ _) (cl.nil _ _ _) (Nat.zero_le _)
  obtain ⟨hA,hB,hC,ai,ci,sl,t1,t2,t3,t4,t5,t6,t7,t8,t9,t10,t11,t12,t13,t14,ck1,ck2,ck3,sc⟩:=sE.tail
  unfold bu
  simp (maxSteps:=3000000) -implicitDefEqProofs only [A.bQ,A.y1,hll,gH,decide_eq_true hi,e2,e3 g A.st.bS,a1,a2,ax,Nat.zero_add,Nat.add_zero,c0,e8,e9,A.y5,A.y7,A.y9,A.bH,l1,cR ga (Kept.refl _ _),e24,e23,l1b,ckH,sb.box.ld,l8,cR gb ob1,e40,hz0,hz1,hz2,hz3,s3,s4,hee,e52,if_true,xt20,xt21,ae,aj,
   t1,t2,t3,t4,t5,t6,t7,t8,t9,t10,t11,t12,t13,t14,ck1,ck2,ck3,bR,Bool.not_true,az,beq_self_eq_true,ay,bin4n,bne_self_eq_false,Bool.false_eq_true,if_false,dL,gR,Bool.and_true,dJ (show i+1≤9223372036854775807 by omega)]
  exact c8.next (k-1) (by have:=A.hik;omega) ⟨i+1,D,S,v,none,j2,by have:=A.hik;omega,rfl,A.y1,A.y5,A.y7,A.y9,A.bH,sc⟩
 ·obtain ⟨xja,_,_⟩:=sa.k1 j J rfl
  obtain ⟨xj,ok,hj0⟩:=sb.k1 j J rfl
  have jlt:=xja.lt
  have dlt:=sa.dk.lt
  have blt:=sa.dk.blt
  have hF : ∀ b,ga.next≤b → ¬rwF j d D b:=by
   intro b hb hc
   rcases hc with hc|hc|hc<;>omega
  obtain ⟨u,g1,e23,x1,hb1,hn1,xj1,k1,own1⟩:=r23 sb.dk xj (by have:=sb.n;omega) ok (E.G ow hF hF) (by omega)
  have e23:CD 23 [prH (some (j,J)),w] gb=some (.tuple #[u,.int .i64 (J.rewrite D op.dh).1],g1):=e23
  obtain ⟨jf,jp,jq,jd,jb⟩:=sb.jne xj
  have gop:=a3 gb ob1
  have jop:j≠g.next:=by
   rintro rfl
   have hl:(J.cells d).length=8:=rfl
   have:=congrArg List.length (Option.some.inj (gop.symm.trans xj.get))
   rw [hl] at this
   cases this
  have q2lt:=af.aS g A.st.g2
  have gop1:=k1.cB gop (fun hc=>hc.elim (fun h=>jop h.symm) (fun h=>by omega))
  have o1:Old h0 g1:=sb.bS.bM k1 (fun c hc e=>by omega)
  have nb:=ob1.next
  have na:=oa.next
  have n1:=k1.next
  obtain ⟨v',S',u',g2,e40,xr2,q2,o2,own2⟩:=r40 (dok:=sb.dk.dok sb.n.1) (sb.rfKept xj k1) (fun b hb=>by omega) sb.eq ok (R.bS o1) (by omega)
  obtain ⟨g3,g4,s3,s4,sE,kk⟩:=sb.updJ k1 x1 hb1 hn1 xj1 (rewrite_jok ok hn1) o2 q2 xr2
  have l6:=(sb.box.aG k1 (by omega)).ld
  obtain ⟨_,l8⟩:=pr_ld (k1.cB sb.g1 (by omega))
  have l8:bD 8 (ptr p 1) g1=some (.agg J.rc.toArray,g1):=l8
  have cR1:aV (ptr g.next 5) g1=some (.slice ra rn rc,g1):=aJ gop1 rfl rfl
  have own1':=(own1.aG o2 (fun _ _ h=>h)).aG kk (fun b hb e=>by have:=own1.base hb;omega)
  have own2':=own2.aG kk (fun b hb e=>by have:=own2.base hb;omega)
  have hpl:(J.rewrite D op.dh).2.2.2.length≤100000:=by
   have:=rewrite_len J D op.dh
   omega
  have e52:=r52 own1' own2' hpl
  generalize J.rewrite D op.dh=AP at *
  obtain ⟨hA,hB,hC,ai,ci,sl,t1,t2,t3,t4,t5,t6,t7,t8,t9,t10,t11,t12,t13,t14,ck1,ck2,ck3,sc⟩:=sE.tail
  unfold bu
  simp (maxSteps:=3000000) -implicitDefEqProofs only [A.bQ,A.y1,hll,gH,decide_eq_true hi,e2,e3 g A.st.bS,a1,a2,ax,Nat.zero_add,Nat.add_zero,c0,e8,e9,A.y5,A.y7,A.y9,A.bH,l1,cR ga (Kept.refl _ _),e24,e23,l1b,ckH,l6,l8,cR1,e40,hz0,hz1,hz2,hz3,s3,s4,hee,e52,if_true,xt20,xt21,ae,aj,
   t1,t2,t3,t4,t5,t6,t7,t8,t9,t10,t11,t12,t13,t14,ck1,ck2,ck3,bR,Bool.not_true,az,beq_self_eq_true,ay,bin4n,bne_self_eq_false,Bool.false_eq_true,if_false,dL,gR,Bool.and_true,dJ (show i+1≤9223372036854775807 by omega)]
  exact c8.next (k-1) (by have:=A.hik;omega) ⟨i+1,_,S',v',some (j,AP.2.2.1),j2,by have:=A.hik;omega,rfl,A.y1,A.y5,A.y7,A.y9,A.bH,sc⟩
end
end Go.Proofs.Ytcmfgmhadeeieaa

namespace Go.Proofs.Ytcmfgmhadeeieaa
open Go Go.Abs
attribute [local congr] fV
theorem be8_lt {l:List Nat} (hl:l.length≤8) (hb : ∀ x∈l,x<256):be l<18446744073709551616:=by
 have h1:=be_lt _ l rfl hb
 have h2:=Nat.pow_le_pow_right (n:=256) (by decide) hl
 omega
theorem openJ_jok {D:Dk} (hb : ∀ y∈D.aU,y<256) (t:Int):JnOk (D.cL t) D:=by
 have hblk : ∀ i,∀ y∈D.bJ i,y<256:=fun i y hy=>hb y (List.mem_of_mem_drop (List.mem_of_mem_take hy))
 have hsg : ∀ i,ba (D.bJ i)<18446744073709551616:=fun i=>be8_lt (List.length_take_le ..) (fun y hy=>hblk i y (List.mem_of_mem_drop (List.mem_of_mem_take hy)))
 have hlg : ∀ s p,bL (D.jb s p)<18446744073709551616:=fun s p=>be8_lt (List.length_take_le ..) (fun y hy=>hblk _ y (List.mem_of_mem_drop (List.mem_of_mem_take hy)))
 have hk:(D.cL t).known≤18446744073709551615:=Knows.cL ⟨fun s _ p _ _=>by have:=hlg s p;omega,fun s _ _=>by have:=hsg s;omega⟩ t
 have h:=openJ_act D t
 have hg:((D.cL t).slot = -1∨(D.cL t).slot=0∨(D.cL t).slot=1)∧(D.cL t).gen<18446744073709551616:=by
  split at h
  ·simp only [Prod.mk.injEq] at h
   exact ⟨.inr (.inr h.1),by rw [h.2.1];exact hsg 1⟩
  ·split at h
   ·simp only [Prod.mk.injEq] at h
    exact ⟨.inr (.inl h.1),by rw [h.2.1];exact hsg 0⟩
   ·simp only [Prod.mk.injEq] at h
    exact ⟨.inl h.1,by rw [h.2.1];omega⟩
 exact ⟨hg.1,openJ_area D t,hg.2,by omega,fun hr=>by rw [(openJ_rest D t).2.1] at hr;cases hr⟩
theorem entries_len (D:Dk) (hn:D.n≤4096):D.entries.length≤100000:=by
 have h1:=ents_len D.opened D.jn D.opened.ar 0
 have h2:D.opened.ar=(D.n-2)/2:=rfl
 have h3:D.entries=D.opened.cS D.jn D.ar 0:=rfl
 have h4:D.ar=(D.n-2)/2:=rfl
 rw [h3,h4]
 rw [h2] at h1
 omega
section
variable {h0:af} {v1:Value} {ops:List OpD} (O:gO h0 v1 ops) (h100:ops.length≤100) {d f p q k:Nat} {y:Nat→Value} {g:af} {i:Nat} {D:Dk} {S:Rf} {v:Value} {j1 j2:Option (Nat×Jn)} (A:ScAt h0 v1 ops d f p q k y g i D S v j1 j2) {ob oo:Nat} {da ra:Option Addr} {dn dc rn rc:Nat} {op:OpD} (hi:i<ops.length)
 (e2:bV 6 v1 (ao i)=some (ptr ob oo)) (e3 : ∀ h',Old h0 h'→bD 6 (ptr ob oo) h'=some (.agg (opC op da dn dc ra rn rc).toArray,h'))
include O h100 A hi e2 e3
set_option maxRecDepth 100000 in
set_option maxHeartbeats 4000000 in
theorem sc8_down (hk:op.kind=8) (hd:D.down=true):c8 243 (scInv h0 v1 ops d f p q) scFin k (bu CD y g):=by
 have hll:=O.len
 obtain ⟨ga,a1,a2,a3,a4,sa,oa,_⟩:=A.st.op op da dn dc ra rn rc
 have c0:aV (ptr g.next 0) ga=some (.int .i64 8,ga):=aJ a4 (by rw [←hk];rfl) rfl
 have e8:bin Try.prog .eql 3 (.int .i64 8) (.int .i64 8)=some (.bool true):=by rw [bZ];rfl
 have e21:=r21_down sa.dk hd
 have oB:Old ga (ga.alloc dt):=Kept.alloc _ _ _
 have gB:(ga.alloc dt).get ga.next=some dt:=by rw [af.aD,if_pos rfl]
 have sB:=sa.aG oB
 have hn8:=new8 ga
 have nB:(ga.alloc dt).next=ga.next+1:=af.aW ..
 have n0B:(ga.alloc dt).n0≤ga.next:=ga.aF
 generalize ga.alloc dt=gb at *
 obtain ⟨g1,e38,xr1,o1⟩:=r38_down sB.xr (by rw [sB.eq.down];exact hd)
 have s1:=sB.aG o1
 obtain ⟨g2,s2,sC,kC⟩:=s1.updD (Kept.refl _ _) s1.dk rfl rfl s1.eq s1.xr
 have flt:f<ga.next:=sa.p6.lt
 have gB1:=Old.get o1 gB
 have gB2:=kC.cB gB1 (by omega)
 have n02:g2.n0≤ga.next:=by rw [kC.n0,o1.n0];exact n0B
 obtain ⟨r1,r2,r3,r4⟩:=fW (n:=8) gB2 n02 rfl (k':=cT) rfl rfl rfl
 have sD:St h0 (g2.set ga.next cT) d f p q D S v j1 j2:=by
  have nz : ∀ {c},c<ga.next → ¬c=ga.next:=fun h=>by omega
  have plt:=af.aS ga sa.g1
  have qlt:=af.aS ga sa.g2
  have dlt:=sa.dk.lt
  have blt:=sa.dk.blt
  have hga:=sa.bS.next
  refine ⟨r4.dk sC.dk (by omega) (by omega),sC.n,sC.box.aG r4 (by omega),sC.p6.aG r4 (by omega),?_,sC.eq,r4.cB sC.g1 (by omega),r4.cB sC.g2 (by omega),fun j J e=>⟨(sC.k1 j J e).1.aG r4 ?_,(sC.k1 j J e).2⟩,fun j J e=>⟨(sC.k2 j J e).1.aG r4 ?_,(sC.k2 j J e).2⟩,sC.ne,sC.bS.bM r4 (fun c hc e=>by omega),sC.lo⟩
  ·obtain ⟨ai,ci,rfl,y1,y2,y3⟩:=sC.xr
   exact ⟨ai,ci,rfl,r4.ef (fun b e=>by subst e;exact ⟨_,gB2,zero8_plain⟩) y1,y2,y3⟩
  ·have:=(sa.k1 j J e).1.lt;omega
  ·have:=(sa.k2 j J e).1.lt;omega
 have m8:bD 8 (ptr ga.next 0) (g2.set ga.next cT)=some (.agg cT.toArray,g2.set ga.next cT):=r2
 have m7:aV (ptr ga.next 7) (g2.set ga.next cT)=some (.bool true,g2.set ga.next cT):=aJ r3 rfl rfl
 generalize g2.set ga.next cT=g3 at *
 have e44:=r44 (h:=g3) (N:=0) (M:=0) (v := .slice none 0 0) (w := .slice none 0 0) (cS := []) (cl.nil _ _ _) (dx.nil _ _) (cl.nil _ _ _) (dx.nil _ _) (Nat.zero_le _)
 have l9:bD 9 (ptr p 0) g3=some (.agg (prC j1).toArray,g3):=cz sD.g1 (fe _) (prC_hole _)
 obtain ⟨g4,g5,p1,p2,sE⟩:=sD.pairs none j1 (fun j J e=>(by cases e)) sD.k1 (fun j J j' J' e=>(by cases e))
 have p1:bK 9 (ptr p 0) (.agg (.pointer none::cT).toArray) g3=some (undef,g4):=p1
 have hbl:ff [(.pointer none),(.int .i64 0),(.int .i64 0),(.int .u64 0),(.int .i64 0),(.int .u64 0),(.bool false),(.int .i64 0),(.bool false)] [(0,1,.pointer none),(1,8,.agg cT.toArray)]=some (.agg (.pointer none::cT).toArray):=rfl
 have hee:bin Try.prog .eql 28 (.int .i64 9) (.int .i64 9)=some (.bool true):=by rw [bZ];rfl
 have ett:bin Try.prog .eql 4 (.bool true) (.bool true)=some (.bool true):=by kernel_rfl
 have hy0 : ∀ a b c:Value,aA (.tuple #[a,b,c]) 0=some a:=fun _ _ _=>rfl
 have hy1 : ∀ a b c:Value,aA (.tuple #[a,b,c]) 1=some b:=fun _ _ _=>rfl
 have hy2 : ∀ a b c:Value,aA (.tuple #[a,b,c]) 2=some c:=fun _ _ _=>rfl
 have hz0 : ∀ a b c d:Value,aA (.tuple #[a,b,c,d]) 0=some a:=fun _ _ _ _=>rfl
 have hz1 : ∀ a b c d:Value,aA (.tuple #[a,b,c,d]) 1=some b:=fun _ _ _ _=>rfl
 have hz2 : ∀ a b c d:Value,aA (.tuple #[a,b,c,d]) 2=some c:=fun _ _ _ _=>rfl
 have hz3 : ∀ a b c d:Value,aA (.tuple #[a,b,c,d]) 3=some d:=fun _ _ _ _=>rfl
 obtain ⟨hA,hB,hC,ai,ci,sl,t1,t2,t3,t4,t5,t6,t7,t8,t9,t10,t11,t12,t13,t14,ck1,ck2,ck3,sc⟩:=sE.tail
 have t1:bD 9 (ptr p 0) g5=some (.agg (prC none).toArray,g5):=t1
 unfold bu
 simp (maxSteps:=3000000) -implicitDefEqProofs only [A.bQ,A.y1,hll,gH,decide_eq_true hi,e2,e3 g A.st.bS,a1,a2,ax,Nat.zero_add,Nat.add_zero,c0,e8,A.y5,A.y7,A.y9,A.bH,e21,hy0,hy1,hy2,hn8,sB.box.ld,e38,hz0,hz1,hz2,hz3,s2,r1,hee,e44,eql38',m7,ett,m8,hbl,l9,p1,p2,if_true,ae,aj,
  t1,t2,t3,t4,t5,t6,t7,t8,t9,t10,t11,t12,t13,t14,ck1,ck2,ck3,bR,Bool.not_true,az,beq_self_eq_true,ay,bin4n,bne_self_eq_false,Bool.false_eq_true,if_false,dL,gR,Bool.and_true,dJ (show i+1≤9223372036854775807 by omega)]
 exact c8.next (k-1) (by have:=A.hik;omega) ⟨i+1,D,S,v,none,j1,by have:=A.hik;omega,rfl,A.y1,A.y5,A.y7,A.y9,A.bH,sc⟩
end
end Go.Proofs.Ytcmfgmhadeeieaa

