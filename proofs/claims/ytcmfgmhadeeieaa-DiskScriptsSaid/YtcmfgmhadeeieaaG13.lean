/-
  A part of the proof, spaces and names shortened by a program (a claim may hold 1,500,000 bytes).
  Conditions: as each theorem states.
-/
import Derived.Test.YtcmfgmhadeeieaaG12
namespace Go.Proofs.Ytcmfgmhadeeieaa
open Go Go.Abs
def RecsS (h:af) (v:Value) (vals:List (List Nat)) (sz o:Nat):Prop:=
 ∃ a c,v = .slice a vals.length c ∧ ∀ i r,vals[i]? = some r → ∃ b f s k ai ni ci,a=some ⟨b,f,s⟩∧h.get b=some k∧k[f+i*sz+o]? = some (.slice ai ni ci)∧av ai ni h=some r
theorem RecsS.bS {h h':af} {v:Value} {vals:List (List Nat)} {sz o:Nat} (R:RecsS h v vals sz o) (k:Old h h'):RecsS h' v vals sz o:=by
 obtain ⟨a,c,rfl,hR⟩:=R
 refine ⟨a,c,rfl,fun i r hi => ?_⟩
 obtain ⟨b,f,s,kk,ai,ni,ci,h1,h2,h3,h4⟩:=hR i r hi
 exact ⟨b,f,s,kk,ai,ni,ci,h1,Old.get k h2,h3,Old.bytes k h4⟩
theorem RecsS.at {h:af} {v:Value} {vals:List (List Nat)} {sz o:Nat} (R:RecsS h v vals sz o) {i:Nat} {r:List Nat} (hi:vals[i]? = some r) :
  ∃ b p ai ni ci,bV sz v (ao i)=some (ptr b p)∧(∀ h',Old h h'→aV (ptr b (p+o)) h'=some (.slice ai ni ci,h'))∧av ai ni h=some r:=by
 obtain ⟨a,c,rfl,hR⟩:=R
 obtain ⟨b,f,s,kk,ai,ni,ci,rfl,h2,h3,h4⟩:=hR i r hi
 have hl:=(List.getElem?_eq_some_iff.1 hi).1
 refine ⟨b,f+i*sz,ai,ni,ci,?_,fun h' k=>aJ (Old.get k h2) h3 rfl,h4⟩
 unfold bV
 simp only [ao]
 rw [if_pos (by omega),Int.toNat_natCast]
theorem RecsS.len {h:af} {v:Value} {vals:List (List Nat)} {sz o:Nat} (R:RecsS h v vals sz o):cK v=some (ao vals.length):=by
 obtain ⟨a,c,rfl,hR⟩:=R
 rfl
theorem gh.S {h:af} {v:Value} {vals:List (List Nat)} (R:gh h v vals):RecsS h v vals 1 0:=by
 obtain ⟨a,n,c,rfl,rfl,_,hR⟩:=R
 refine ⟨a,c,rfl,fun i r hi => ?_⟩
 have hl:=(List.getElem?_eq_some_iff.1 hi).1
 obtain ⟨b,off,s,k,rv,h1,h2,h3,h4,ai,ni,ci,rfl,h6,_⟩:=hR i hl
 rw [List.getD_eq_getElem?_getD,hi] at h6
 exact ⟨b,off,s,k,ai,ni,ci,h1,h2,by rw [Nat.mul_one];exact h3,h6⟩
def RecAt (h:af) (N:Nat) (cells:List Value) (i:Nat) (r:List Nat):Prop:=
 ∃ a n c,cells[i]? = some (.slice a n c)∧av a n h=some r∧cU a n c=true ∧ ∀ y,a=some y→0<n→N≤y.block
def dE (h:af) (N:Nat) (cells:List Value) (vals:List (List Nat)):Prop:=cells.length=vals.length ∧ ∀ i r,vals[i]? = some r→RecAt h N cells i r
theorem dE.aG {h h':af} {N:Nat} {cells:List Value} {vals:List (List Nat)} (E:dE h N cells vals) {B:Nat→Prop} (k:Kept h h' B) (hB : ∀ b,B b→ei h b):dE h' N cells vals:=by
 refine ⟨E.1,fun i e he => ?_⟩
 obtain ⟨a,n,c,h2,h3,h4,h5⟩:=E.2 i e he
 exact ⟨a,n,c,h2,k.ef hB h3,h4,h5⟩
theorem dE.nil (h:af) (N:Nat):dE h N [] []:=⟨rfl,fun i e he=>by simp at he⟩
theorem dE.plain {h:af} {N:Nat} {cells:List Value} {vals:List (List Nat)} (E:dE h N cells vals) : ∀ v∈cells,nat8 v=none:=by
 intro v hv
 obtain ⟨q,hq⟩:=List.getElem?_of_mem hv
 have hl:=(List.getElem?_eq_some_iff.1 hq).1
 rw [E.1] at hl
 obtain ⟨a,n,c,h2,_⟩:=E.2 q vals[q] (List.getElem?_eq_getElem hl)
 rw [hq] at h2;cases h2;rfl
theorem dE.append {h:af} {N:Nat} {cells cells':List Value} {vals vals':List (List Nat)} (E:dE h N cells vals) (E':dE h N cells' vals'):dE h N (cells++cells') (vals++vals'):=by
 refine ⟨by simp [E.1,E'.1],fun i e he => ?_⟩
 have hl:=E.1
 by_cases hi:i<vals.length
 ·rw [List.getElem?_append_left hi] at he
  obtain ⟨a,n,c,h2,h3⟩:=E.2 i e he
  exact ⟨a,n,c,by rw [List.getElem?_append_left (by omega)];exact h2,h3⟩
 ·rw [List.getElem?_append_right (by omega)] at he
  obtain ⟨a,n,c,h2,h3⟩:=E'.2 _ e he
  exact ⟨a,n,c,by rw [List.getElem?_append_right (by omega),hl];exact h2,h3⟩
theorem dE.one {h:af} {N:Nat} {l:List Nat} {a:Option Addr} {n c:Nat} (hs:av a n h=some l) (hg:cU a n c=true) (ha : ∀ y,a=some y→0<n→N≤y.block):dE h N [.slice a n c] [l]:=by
 refine ⟨rfl,fun i e he => ?_⟩
 match i with
 | 0=>cases he;exact ⟨a,n,c,rfl,hs,hg,ha⟩
 |i+1=>simp at he
theorem dE.low {h:af} {N M:Nat} {cells:List Value} {vals:List (List Nat)} (E:dE h N cells vals) (hM:M≤N):dE h M cells vals:=by
 refine ⟨E.1,fun i e he => ?_⟩
 obtain ⟨a,n,c,h2,h3,h4,h5⟩:=E.2 i e he
 exact ⟨a,n,c,h2,h3,h4,fun y hy hn=>Nat.le_trans hM (h5 y hy hn)⟩
theorem dE.S {h:af} {N N':Nat} {v:Value} {cells:List Value} {vals:List (List Nat)} (E:dE h N' cells vals) (o:cl h N 1 v vals.length cells):RecsS h v vals 1 0:=by
 obtain ⟨_,_,_,⟨rfl,h4⟩|⟨b,s,rfl,h5,⟨rfl,h4⟩|⟨rfl,h6⟩⟩⟩:=o
 ·exact ⟨none,0,by rw [h4],fun i r hi=>by have:=(List.getElem?_eq_some_iff.1 hi).1;omega⟩
 ·exact ⟨_,_,rfl,fun i r hi=>by have:=(List.getElem?_eq_some_iff.1 hi).1;omega⟩
 ·refine ⟨_,_,rfl,fun i r hi => ?_⟩
  obtain ⟨a,n,c,h2,h3,_⟩:=E.2 i r hi
  exact ⟨b,0,_,cells,a,n,c,rfl,h6,by rw [Nat.zero_add,Nat.mul_one];exact h2,h3⟩
theorem dE.G {h:af} {N N':Nat} {v:Value} {cells:List Value} {vals:List (List Nat)} (E:dE h N' cells vals) (o:cl h N 1 v vals.length cells) {F:Nat→Prop} (hF : ∀ b,N≤b → ¬F b) (hF' : ∀ b,N'≤b → ¬F b):RecsG h F v vals:=by
 obtain ⟨_,_,_,⟨rfl,h4⟩|⟨b,s,rfl,h5,⟨rfl,h4⟩|⟨rfl,h6⟩⟩⟩:=o
 ·exact ⟨none,0,by rw [h4],fun i r hi=>by have:=(List.getElem?_eq_some_iff.1 hi).1;omega⟩
 ·exact ⟨_,_,rfl,fun i r hi=>by have:=(List.getElem?_eq_some_iff.1 hi).1;omega⟩
 ·refine ⟨_,_,rfl,fun i r hi => ?_⟩
  obtain ⟨a,n,c,h2,h3,h4,h5'⟩:=E.2 i r hi
  exact ⟨b,0,_,cells,a,n,c,rfl,h6,hF b h5,by rw [Nat.zero_add];exact h2,h3,h4,fun y hy hn=>hF' _ (h5' y hy hn)⟩
theorem dx.S {h:af} {N N':Nat} {v:Value} {cells:List Value} {cS:List (Nat×List Nat)} (E:dx h N' cells cS) (o:cl h N 2 v cS.length cells):RecsS h v (cS.map (·.2)) 2 1:=by
 obtain ⟨_,_,_,⟨rfl,h4⟩|⟨b,s,rfl,h5,⟨rfl,h4⟩|⟨rfl,h6⟩⟩⟩:=o
 ·exact ⟨none,0,by rw [List.length_map,h4],fun i r hi=>by have:=(List.getElem?_eq_some_iff.1 hi).1;rw [List.length_map] at this;omega⟩
 ·exact ⟨_,_,by rw [List.length_map],fun i r hi=>by have:=(List.getElem?_eq_some_iff.1 hi).1;rw [List.length_map] at this;omega⟩
 ·refine ⟨_,_,by rw [List.length_map],fun i r hi => ?_⟩
  rw [List.getElem?_map,Option.map_eq_some_iff] at hi
  obtain ⟨e,he,rfl⟩:=hi
  obtain ⟨_,a,n,c,h2,h3,_⟩:=E.2 i e he
  exact ⟨b,0,_,cells,a,n,c,rfl,h6,by rw [Nat.zero_add,Nat.mul_comm];exact h2,h3⟩
theorem copy_step {h0 g:af} {w:Value} {cells:List Value} {done:List (List Nat)} {r:List Nat} {a:Option Addr} {n c:Nat} (own:cl g h0.next 1 w done.length cells) (E:dE g h0.next cells done) (hold:Old h0 g)
  (hs:av a n g=some r) (hr:r.length≤100000) (hd:done.length≤1000000) :
  ∃ v1 g1 g2 b2 v3 g3 cells',bt 1 1 (.slice (some ⟨g.next,0,none⟩) 0 0) (.slice a n c) (g.alloc [])=some (v1,g1)∧dY 1 (.slice none 0 0) 1 [(0,v1)] g1=some (.slice (some ⟨b2,0,none⟩) 1 1,g2) ∧
    bt 1 24 w (.slice (some ⟨b2,0,none⟩) 1 1) g2=some (v3,g3)∧cl g3 h0.next 1 v3 (done ++ [r]).length cells'∧dE g3 h0.next cells' (done ++ [r])∧Old h0 g3:=by
 have hn:=(aB hs).1
 have hN:h0.next≤g.next:=hold.next
 have oA:Old g (g.alloc []):=Kept.alloc _ _ _
 have nA:(g.alloc []).next=g.next+1:=af.aW ..
 have oA0:Old h0 (g.alloc []):=hold.trans oA
 have own0:cY (g.alloc []) g.next (.slice (some ⟨g.next,0,none⟩) 0 0) []:=⟨cl.empty _ (Nat.le_refl _),by simp⟩
 obtain ⟨v1,g1,e1,b1,k1,_⟩:=dK own0 (by rw [oA.n0];exact g.aF) (by omega) (Old.bytes oA hs) (c:=c) (by simp only [List.length_nil];omega)
 rw [List.nil_append] at b1
 have k1':Old g g1:=oA.bM k1 (fun c hc hb=>by
  have:dX (.slice (some ⟨g.next,0,none⟩) 0 0)=some g.next:=rfl
  rw [this] at hb
  cases hb
  omega)
 obtain ⟨a1,c1,rfl,s1,t1,u1,_⟩:=b1.bytes
 have hlit:dY 1 (.slice none 0 0) 1 [(0,.slice a1 r.length c1)] g1=some (.slice (some ⟨g1.next,0,none⟩) 1 1,g1.alloc [.slice a1 r.length c1]):=rfl
 have oB:Old g1 (g1.alloc [.slice a1 r.length c1]):=Kept.alloc _ _ _
 have oB0:Old h0 (g1.alloc [.slice a1 r.length c1]):=(hold.trans k1').trans oB
 have gB:(g1.alloc [.slice a1 r.length c1]).get g1.next=some [.slice a1 r.length c1]:=by rw [af.aD,if_pos rfl]
 have ownB:=(own.aG k1' (fun _ _ h=>h)).aG oB (fun _ _ h=>h)
 have EB:=(E.aG k1' (fun _ h=>h.elim)).aG oB (fun _ h=>h.elim)
 have sB:=Old.bytes oB s1
 generalize g1.alloc [.slice a1 r.length c1]=gB1 at *
 have hfB:bY 1 1 (.slice (some ⟨g1.next,0,none⟩) 1 1) gB1=some [.slice a1 r.length c1]:=by
  simp only [bY,gB]
  rfl
 obtain ⟨v3,g3,f1,f2,f3,f4⟩:=append_own (by_:=24) (x := .slice (some ⟨g1.next,0,none⟩) 1 1) (m:=1) ownB (by rw [oB0.n0];exact h0.aF) oB0.next (by decide) rfl hfB rfl rfl rfl (by omega) (by omega)
 have pl : ∀ b,dX w=some b∧gB1.get b=some cells→ei gB1 b:=fun b hb=>⟨cells,hb.2,EB.plain⟩
 refine ⟨_,g1,gB1,g1.next,v3,g3,cells ++ [.slice a1 r.length c1],e1,hlit,f1,by rw [List.length_append];exact f2,?_,?_⟩
 ·exact (EB.aG f3 pl).append (dE.one (f3.ef pl sB) t1 (fun y hy _=>Nat.le_trans hN (u1 y hy)))
 ·exact oB0.bM f3 (fun c hc hb=>by have:=ownB.base hb.1;omega)
theorem is24:ch Try.prog 24 Try.f24:=⟨by kernel_rfl,by kernel_rfl,by kernel_rfl,by kernel_rfl⟩
def ownInv (h0:af) (v:Value) (vals:List (List Nat)) (k:Nat) (y:Nat→Value) (g:af):Prop:=
 ∃ i cells,i+k=vals.length∧y 0=v∧y 4=ao i∧cl g h0.next 1 (y 3) i cells∧dE g h0.next cells (vals.take i)∧Old h0 g
def ownFin (h0:af) (vals:List (List Nat)) (ex:Ex) (y:Nat→Value) (g:af):Prop:=
 ex = .exit 0 ∧ ∃ cells,cl g h0.next 1 (y 3) vals.length cells∧dE g h0.next cells vals∧Old h0 g
theorem take_snoc {vals:List (List Nat)} {i:Nat} (h:i<vals.length):vals.take (i+1)=vals.take i ++ [vals[i]]:=by
 rw [List.take_add_one,List.getElem?_eq_getElem h];rfl
section
variable {h0:af} {v:Value} {vals:List (List Nat)}
theorem own_round (R:RecsS h0 v vals 1 0) (hlen:vals.length≤100000) (h21 : ∀ r∈vals,r.length≤100000) : ∀ k y g,ownInv h0 v vals k y g→c8 22 (ownInv h0 v vals) (ownFin h0 vals) k (t24l24_11010 CD y g):=by
 rintro k y g ⟨i,cells,hik,y0,y4,own,E,hold⟩
 have hll:=R.len
 unfold t24l24_11010
 simp -implicitDefEqProofs only [y4,y0,ae,hll,aj,gH]
 by_cases hlt:i<vals.length
 ·obtain ⟨q,rfl⟩ : ∃ q,k=q+1:=⟨k-1,by omega⟩
  have hbs:dY 1 (.int .u8 0) 0 [] g=some (.slice (some ⟨g.next,0,none⟩) 0 0,g.alloc []):=rfl
  obtain ⟨b,p,ai,ni,ci,hix,hld,hs⟩:=(R.bS hold).at (List.getElem?_eq_getElem hlt)
  have hld:=hld _ (Kept.alloc g [] _)
  rw [Nat.add_zero] at hld
  have hti:(vals.take i).length=i:=by rw [List.length_take];omega
  obtain ⟨v1,g1,g2,b2,v3,g3,cells',e1,e2,e3,o3,E3,hold3⟩:=copy_step (h0:=h0) (w:=y 3) (done:=vals.take i) (c:=ci) (by rw [hti];exact own) E hold hs (h21 _ (List.getElem_mem hlt)) (by omega)
  simp -implicitDefEqProofs only [decide_eq_true hlt,hbs,ae,hix,hld,e1,e2,e3,aj,dJ (show i+1≤9223372036854775807 by omega)]
  refine c8.next q (by omega) ⟨i+1,cells',by omega,y0,rfl,?_,?_,hold3⟩
  ·rw [List.length_append,hti] at o3
   exact o3
  ·rw [take_snoc hlt];exact E3
 ·have hi:i=vals.length:=by omega
  subst hi
  rw [List.take_length] at E
  simp -implicitDefEqProofs only [decide_eq_false hlt]
  exact c8.out 0 ⟨rfl,cells,own,E,hold⟩
theorem r24 (R:RecsS h0 v vals 1 0) (hlen:vals.length≤100000) (h21 : ∀ r∈vals,r.length≤100000) : ∃ v' cells h',CD 24 [v] h0=some (v',h')∧cl h' h0.next 1 v' vals.length cells∧dE h' h0.next cells vals∧Old h0 h':=by
 have key : ∃ v' cells h',t24 CD v h0=some (v',h')∧cl h' h0.next 1 v' vals.length cells∧dE h' h0.next cells vals∧Old h0 h':=by
  unfold t24
  have hbs:dY 1 (.slice none 0 0) 0 [] h0=some (.slice (some ⟨h0.next,0,none⟩) 0 0,h0.alloc []):=rfl
  simp -implicitDefEqProofs only [hbs,ae]
  refine cy (Q:=fun o:Out => ∃ v' cells h',o=some (v',h')∧cl h' h0.next 1 v' vals.length cells∧dE h' h0.next cells vals∧Old h0 h')
   (ct (t24l24_11010_eq CD) (own_round R hlen h21) vals.length (by have:rounds=18446744073709551616:=rfl;omega)
    ⟨0,[],Nat.zero_add _,rfl,rfl,cl.empty _ (Nat.le_refl _),dE.nil _ _,Kept.alloc _ _ _⟩) ?_
  rintro ex z g ⟨rfl,cells,own,E,hold⟩
  simp -implicitDefEqProofs only [bG,b24_4,if_true,t24k24_2_eq]
  unfold t24k24_2
  simp -implicitDefEqProofs only [ae]
  exact ⟨_,cells,g,rfl,own,E,hold⟩
 obtain ⟨v',cells,h',e,f⟩:=key
 exact ⟨v',cells,h',aK is24 rfl ((t24_eq _ _ _).trans e),f⟩
end
theorem strOf_inj {a b:List Nat} (ha : ∀ x∈a,x<256) (hb : ∀ x∈b,x<256):((iz a).toList==(iz b).toList)=decide (a=b):=by
 have hl : ∀ l:List Nat,(iz l).toList=l.map UInt8.ofNat:=fun l=>Go.ByteArray.toList_mk _
 have hinj : ∀ a b:List Nat,(∀ x∈a,x<256)→(∀ x∈b,x<256)→a.map UInt8.ofNat=b.map UInt8.ofNat→a=b:=by
  intro a
  induction a with
  |nil=>intro b _ _ h;simpa using h.symm
  |cons x a ih=>
   intro b ha hb h
   match b with
   | []=>simp at h
   |y::b=>
    rw [List.map_cons,List.map_cons,List.cons.injEq] at h
    have hx:=ha x List.mem_cons_self
    have hy:=hb y List.mem_cons_self
    have e:x=y:=by
     have:=congrArg UInt8.toNat h.1
     rw [UInt8.toNat_ofNat',UInt8.toNat_ofNat'] at this
     omega
    rw [e,ih b (fun z hz=>ha z (List.mem_cons_of_mem _ hz)) (fun z hz=>hb z (List.mem_cons_of_mem _ hz)) h.2]
 rw [hl,hl]
 by_cases e:a=b
 ·rw [decide_eq_true e,e];exact beq_self_eq_true _
 ·rw [decide_eq_false e,beq_eq_false_iff_ne]
  exact fun h=>e (hinj a b ha hb h)
section
variable {h0:af} {v w:Value} {la lb:List (List Nat)}
end
end Go.Proofs.Ytcmfgmhadeeieaa

namespace Go.Proofs.Ytcmfgmhadeeieaa
open Go Go.Abs
theorem be_inj : ∀ {a b:List Nat},a.length=b.length→(∀ x∈a,x<256)→(∀ x∈b,x<256)→be a=be b→a=b
 | [],[],_,_,_,_=>rfl
 |x::a,y::b,hl',ha,hb,h=>by
  have hl:a.length=b.length:=by simpa using hl'
  clear hl'
  rw [be_cons,be_cons,hl] at h
  have h1:be a<256^b.length:=be_lt _ a hl (fun z hz=>ha z (List.mem_cons_of_mem _ hz))
  have h2:be b<256^b.length:=be_lt _ b rfl (fun z hz=>hb z (List.mem_cons_of_mem _ hz))
  have hp:0<256^b.length:=Nat.pow_pos (by decide)
  have e1:x=y:=by
   have:=congrArg (· / 256^b.length) h
   simp only [Nat.mul_comm _ (256^b.length),Nat.mul_add_div hp,Nat.div_eq_of_lt h1,Nat.div_eq_of_lt h2] at this
   omega
  subst e1
  have h3:be a=be b:=by omega
  rw [be_inj (a:=a) (b:=b) hl (fun z hz=>ha z (List.mem_cons_of_mem _ hz)) (fun z hz=>hb z (List.mem_cons_of_mem _ hz)) h3]
 | [],_::_,hl,_,_,_=>by simp at hl
 |_::_,[],hl,_,_,_=>by simp at hl
def Dk.rot (D:Dk) (i at_:Int) (m:Nat):Int×Dk:=
 if i<0∨(D.n:Int)≤i∨at_<0∨128≤at_ then (2,D) else (0,{ D with aU:=D.aU.set (i.toNat*128+at_.toNat) (D.aU.getD (i.toNat*128+at_.toNat) 0 ^^^ m) })
theorem is31:ch Try.prog 31 Try.f31:=⟨by kernel_rfl,by kernel_rfl,by kernel_rfl,by kernel_rfl⟩
theorem r31 {h:af} {d:Nat} {D:Dk} (x:aX h d D) (i at_:Int) {m:Nat} (hm:m<256) :
  ∃ h',CD 31 [ptr d 0,.int .i64 i,.int .i64 at_,u8 m] h=some (.int .i64 (D.rot i at_ m).1,h')∧aX h' d (D.rot i at_ m).2∧cq d D.bb h h':=by
 have hl:cK (.slice (some ⟨D.bb,0,none⟩) D.n D.n)=some (ao D.n):=rfl
 have key : ∃ h',t31 CD (ptr d 0) (.int .i64 i) (.int .i64 at_) (u8 m) h=some (.int .i64 (D.rot i at_ m).1,h')∧aX h' d (D.rot i at_ m).2∧cq d D.bb h h':=by
  unfold t31
  simp -implicitDefEqProofs only [ae,nil27e,aj,bB,az]
  by_cases hbad:i<0∨(D.n:Int)≤i∨at_<0∨128≤at_
  ·have hrot:D.rot i at_ m=(2,D):=by unfold Dk.rot;rw [if_pos hbad]
   rw [hrot]
   refine ⟨h,?_,x,Kept.refl _ _⟩
   by_cases h1:i<0
   ·simp -implicitDefEqProofs only [decide_eq_true h1,sf,aE,ae,if_true,az]
   have h1':decide (i<0)=false:=decide_eq_false h1
   simp -implicitDefEqProofs only [h1',beq_self_eq_true,ay,ae,aH,aj,ax,Nat.zero_add,x.l0,hl,c9,Bool.false_eq_true,if_false,az]
   by_cases h2:(i:Int)≥(D.n:Int)
   ·simp -implicitDefEqProofs only [decide_eq_true h2,sf,aE,ae,if_true,az]
   have h2':decide ((i:Int)≥(D.n:Int))=false:=decide_eq_false h2
   simp -implicitDefEqProofs only [h2',beq_self_eq_true,ay,ae,aj,bB,Bool.false_eq_true,if_false,az]
   by_cases h3:at_<0
   ·simp -implicitDefEqProofs only [decide_eq_true h3,sf,aE,ae,if_true,az]
   have h4:at_≥128:=by omega
   simp -implicitDefEqProofs only [decide_eq_false h3,beq_self_eq_true,ay,ae,aj,c9,Bool.false_eq_true,if_false,az,decide_eq_true h4]
  ·obtain ⟨q,rfl⟩ : ∃ q:Nat,i=q:=⟨i.toNat,by omega⟩
   obtain ⟨p,rfl⟩ : ∃ p:Nat,at_=p:=⟨at_.toNat,by omega⟩
   have hrot:D.rot (q:Int) (p:Int) m=(0,{ D with aU:=D.aU.set (q*128+p) (D.aU.getD (q*128+p) 0 ^^^ m) }):=by unfold Dk.rot;rw [if_neg hbad];rfl
   rw [hrot]
   have g1:decide ((q:Int)<0)=false:=decide_eq_false (by omega)
   have g2:decide ((q:Int)≥(D.n:Int))=false:=decide_eq_false (by omega)
   have g3:decide ((p:Int)<0)=false:=decide_eq_false (by omega)
   have g4:decide ((p:Int)≥128)=false:=decide_eq_false (by omega)
   have hlen:=x.len
   have hq:q<D.n:=by omega
   have hp:p<128:=by omega
   have hin:q*128+p<D.aU.length:=by omega
   have hix:bV 128 (.slice (some ⟨D.bb,0,none⟩) D.n D.n) (.int .i64 (q:Int))=some (ptr D.bb (q*128)):=by
    unfold bV
    simp only
    rw [if_pos (by omega),Int.toNat_natCast,Nat.zero_add]
   have hia:idxA 128 1 (ptr D.bb (q*128)) (.int .i64 (p:Int))=some (ptr D.bb (q*128+p)):=by
    unfold idxA
    simp only [ptr,ax]
    rw [if_pos (by omega),Int.toNat_natCast,Nat.mul_one]
    rfl
   have hv:D.aU.getD (q*128+p) 0<256:=by
    rw [List.getD_eq_getElem?_getD,List.getElem?_eq_getElem hin]
    exact x.byte _ (List.getElem_mem hin)
   have hld:aV (ptr D.bb (q*128+p)) h=some (u8 (D.aU.getD (q*128+p) 0),h):=aJ x.aU (by rw [List.getElem?_map,List.getElem?_eq_getElem hin,List.getD_eq_getElem?_getD,List.getElem?_eq_getElem hin];rfl)
   have hx:=fp Try.prog 5 (k := .u8) rfl (a:=D.aU.getD (q*128+p) 0) (b:=m) hv hm
   have hx2:D.aU.getD (q*128+p) 0 ^^^ m<256:=Nat.xor_lt_two_pow (n:=8) hv hm
   have hst:=dm (v:=u8 (D.aU.getD (q*128+p) 0 ^^^ m)) x.aU (show q*128+p<(D.aU.map u8).length by rw [List.length_map];exact hin) x.bn rfl rfl
   simp -implicitDefEqProofs only [g1,g2,g3,g4,beq_self_eq_true,ay,ae,aH,aj,ax,Nat.zero_add,x.l0,hl,c9,bB,Bool.false_eq_true,if_false,az,hix,hia,hld,hx,hst]
   have hne:=x.ne
   refine ⟨_,rfl,?_,?_⟩
   ·refine ⟨?_,?_,by show (D.aU.set _ _).length=_;rw [List.length_set];exact hlen,?_,x.dn,x.bn,x.ne,x.small,x.after,x.aG⟩
    ·exact (af.bm x.bn x.blt _ hne).trans x.gQ
    ·rw [af.a9 x.bn x.aU]
     show some ((D.aU.map u8).set _ _)=some ((D.aU.set _ _).map u8)
     rw [List.map_set]
    ·intro y hy
     rcases List.mem_or_eq_of_mem_set hy with hy|rfl
     ·exact x.byte y hy
     ·exact hx2
   ·exact (Kept.set (B:=fun c=>c=D.bb) x.bn x.aU (.inr rfl)).mono (fun c _ hc => .inr hc)
 obtain ⟨h',e,f⟩:=key
 exact ⟨h',aK is31 rfl ((t31_eq _ _ _ _ _ _).trans e),f⟩
end Go.Proofs.Ytcmfgmhadeeieaa

namespace Go.Proofs.Ytcmfgmhadeeieaa
open Go Go.Abs
theorem right_logOk {at_:Nat} {b:List Nat} (h:right b=false):dO at_ b=false:=by unfold dO;rw [h];rfl
theorem hides {D:Dk} {aq gen at_:Nat} {r:List Nat} (hg:gen<18446744073709551616) (hr:r.length≤20000) (hb : ∀ x∈r,x<256) (hfit:at_+a8 r.length≤D.ar) (har:D.ar≤4096) {i:Nat} (hi:i<a8 r.length) (hbad:right (D.jb aq (at_+i))=false)
  (hrest : ∀ j,j<a8 r.length→j≠i→D.jb aq (at_+j)=di gen (at_+j) j (a8 r.length) (chunk r j)) : ∀ j,j<a8 r.length→D.bc aq gen (at_+j)=false:=by
 intro j hj
 have hc:=fC (n:=r.length) (by omega)
 by_cases hji:j=i
 ·subst hji
  exact Dk.noB.bc (.inl (right_logOk hbad))
 by_cases hj0:j=0
 ·subst hj0
  rw [Nat.add_zero]
  have h0:=hrest 0 hj hji
  rw [Nat.add_zero] at h0
  have hp:D.parts aq at_=a8 r.length:=by
   unfold Dk.parts
   rw [h0,logParts_log (by omega)]
  refine Dk.not_stands (i:=i) (by rw [hp];exact hi) ?_
  unfold Dk.part
  rw [right_logOk hbad];rfl
 ·refine Dk.noB.bc (.inr (.inr ?_))
  rw [hrest j hj hji,logPart_log (by omega)]
  exact hj0
theorem Dk.blk_len {D:Dk} (hlen:D.aU.length=128*D.n) {i:Nat} (hi:i<D.n):(D.bJ i).length=128:=by
 unfold Dk.bJ
 rw [List.length_take,List.length_drop]
 omega
end Go.Proofs.Ytcmfgmhadeeieaa

namespace Go.Proofs.Ytcmfgmhadeeieaa
open Go Go.Abs
theorem BytesV.bS {h h':af} {v:Value} {l:List Nat} (x:BytesV h v l) (k:Old h h'):BytesV h' v l:=by
 obtain ⟨a,n,c,rfl,h1,h2⟩:=x
 exact ⟨a,n,c,rfl,Old.bytes k h1,h2⟩
theorem gh.bS {h h':af} {v:Value} {vals:List (List Nat)} (x:gh h v vals) (k:Old h h'):gh h' v vals:=by
 obtain ⟨a,n,c,rfl,h1,h2,h3⟩:=x
 refine ⟨a,n,c,rfl,h1,h2,fun i hi => ?_⟩
 obtain ⟨b,off,s,kk,rv,e1,e2,e3,e4,e5⟩:=h3 i hi
 exact ⟨b,off,s,kk,rv,e1,Old.get k e2,e3,e4,e5.bS k⟩
theorem gh.byte {h:af} {v:Value} {vals:List (List Nat)} (x:gh h v vals) : ∀ r∈vals,∀ y∈r,y<256:=by
 intro r hr
 obtain ⟨i,hi⟩:=List.getElem?_of_mem hr
 obtain ⟨a,n,c,rfl,h1,h2,h3⟩:=x
 obtain ⟨b,off,s,kk,rv,e1,e2,e3,e4,a',n',c',_,e5,_⟩:=h3 i (by have:=(List.getElem?_eq_some_iff.1 hi).1;omega)
 rw [List.getD_eq_getElem?_getD,hi] at e5
 exact (aB e5).2.1
def RecsI (h:af) (v:Value) (vals:List (List Nat)):Prop:=gh h v vals ∧ ∃ a n c,v = .slice a n c∧n≤c ∧ ∀ y,a=some y→0<n→y.spot=none
theorem RecsI.bS {h h':af} {v:Value} {vals:List (List Nat)} (x:RecsI h v vals) (k:Old h h'):RecsI h' v vals:=⟨x.1.bS k,x.2⟩
theorem RecsI.S {h:af} {v:Value} {vals:List (List Nat)} (x:RecsI h v vals):RecsS h v vals 1 0:=x.1.S
theorem RecsI.to {h:af} {v:Value} {vals:List (List Nat)} (x:RecsI h v vals) (h0:0<vals.length) {k:Nat} (hk:k≤vals.length) : ∃ v',slR 1 v none (some (ao k)) none=some v'∧RecsS h v' (vals.take k) 1 0:=by
 obtain ⟨hV,a,n,c,rfl,hnc,hsp⟩:=x
 obtain ⟨a',c',e,hS⟩:=hV.S
 cases e
 obtain ⟨b,f,s,kk,ai,ni,ci,rfl,_⟩:=hS 0 _ (List.getElem?_eq_getElem h0)
 have:s=none:=hsp _ rfl h0
 subst this
 have hb:dG vals.length c none (some (ao k)) none=some (0,k,c):=by
  unfold dG
  simp only [cp,ao]
  rw [if_pos (by omega),Int.toNat_natCast]
 refine ⟨.slice (some ⟨b,if c=0 then f else f+0*1,none⟩) (k-0) (c-0),?_,?_⟩
 ·unfold slR fc
  simp only [hb]
 ·refine ⟨_,_,by rw [List.length_take,Nat.min_eq_left hk,Nat.sub_zero],fun i r hi => ?_⟩
  rw [List.getElem?_take] at hi
  split at hi
  ·obtain ⟨b',f',s',k2,ai',ni',ci',e,r1,r2,r3⟩:=hS i r hi
   cases e
   exact ⟨b,_,none,k2,ai',ni',ci',rfl,r1,by rw [show (if c=0 then f else f+0*1)=f by split<;>omega];exact r2,r3⟩
  ·cases hi
theorem RecsI.from {h:af} {v:Value} {vals:List (List Nat)} (x:RecsI h v vals) (h0:0<vals.length) {k:Nat} (hk:k≤vals.length) : ∃ v',slR 1 v (some (ao k)) none none=some v'∧RecsS h v' (vals.drop k) 1 0:=by
 obtain ⟨hV,a,n,c,rfl,hnc,hsp⟩:=x
 obtain ⟨a',c',e,hS⟩:=hV.S
 cases e
 obtain ⟨b,f,s,kk,ai,ni,ci,rfl,_⟩:=hS 0 _ (List.getElem?_eq_getElem h0)
 have:s=none:=hsp _ rfl h0
 subst this
 have hb:dG vals.length c (some (ao k)) none none=some (k,vals.length,c):=by
  unfold dG
  simp only [cp,ao]
  rw [if_pos (by omega),Int.toNat_natCast]
 refine ⟨.slice (some ⟨b,if c=k then f else f+k*1,none⟩) (vals.length-k) (c-k),?_,?_⟩
 ·unfold slR fc
  simp only [hb]
 ·refine ⟨_,_,by rw [List.length_drop],fun i r hi => ?_⟩
  rw [List.getElem?_drop] at hi
  have hl:=(List.getElem?_eq_some_iff.1 hi).1
  obtain ⟨b',f',s',k2,ai',ni',ci',e,r1,r2,r3⟩:=hS _ r hi
  cases e
  refine ⟨b,_,none,k2,ai',ni',ci',rfl,r1,?_,r3⟩
  rw [if_neg (by omega),show f+k*1+i*1+0=f+(k+i)*1+0 by omega]
  exact r2
theorem X17:XX 17=s17:=rfl
theorem cl.at {h:af} {N size len:Nat} {v:Value} {cells:List Value} (o:cl h N size v len cells) {i:Nat} (hi:i<len) : ∃ b,bV size v (ao i)=some (ptr b (i*size))∧h.get b=some cells∧cK v=some (ao len)∧N≤b:=by
 obtain ⟨_,_,_,⟨rfl,h4⟩|⟨b,s,rfl,h5,⟨rfl,h4⟩|⟨rfl,h6⟩⟩⟩:=o
 ·omega
 ·omega
 ·refine ⟨b,?_,h6,rfl,h5⟩
  unfold bV
  simp only [ao]
  rw [if_pos (by omega),Int.toNat_natCast,Nat.zero_add]
theorem cl.len {h:af} {N size len:Nat} {v:Value} {cells:List Value} (o:cl h N size v len cells):cK v=some (ao len):=by
 obtain ⟨_,_,_,⟨rfl,h4⟩|⟨b,s,rfl,h5,_⟩⟩:=o
 ·rw [h4];rfl
 ·rfl
theorem cl.first {h:af} {N len:Nat} {v:Value} {cells:List Value} (o:cl h N 1 v len cells):lenA v=some len∧bY 1 len v h=some cells:=by
 obtain ⟨h1,h2,_,⟨rfl,h4⟩|⟨b,s,rfl,h5,⟨rfl,h4⟩|⟨rfl,h6⟩⟩⟩:=o
 ·subst h4
  have:cells = []:=List.length_eq_zero_iff.1 (by omega)
  subst this
  exact ⟨rfl,rfl⟩
 ·subst h4
  have:cells = []:=List.length_eq_zero_iff.1 (by omega)
  subst this
  exact ⟨rfl,rfl⟩
 ·refine ⟨rfl,?_⟩
  simp only [bY,h6]
  by_cases h0:len=0
  ·subst h0
   have:cells = []:=List.length_eq_zero_iff.1 (by omega)
   subst this
   rfl
  ·rw [if_neg (by omega),List.drop_zero,List.take_of_length_le (by omega),if_pos ⟨by omega,h2⟩]
end Go.Proofs.Ytcmfgmhadeeieaa

namespace Go.Proofs.Ytcmfgmhadeeieaa
open Go Go.Abs
structure Rf where
 aU:List Nat
 down:Bool
 bX:Bool
 after:Int
 aG:Int
 bw:Int
def Rf.cells (S:Rf) (s:Value):dV := [s,.bool S.down,.bool S.bX,.int .i64 S.after,.int .i64 S.aG,.int .i64 S.bw]
def bT (h:af) (F:Nat→Prop) (v:Value) (S:Rf):Prop:=
 ∃ a c,v = .agg (S.cells (.slice a S.aU.length c)).toArray∧av a S.aU.length h=some S.aU∧cU a S.aU.length c=true ∧ ∀ y,a=some y→0<S.aU.length → ¬F y.block
theorem bT.aG {h h':af} {F B:Nat→Prop} {v:Value} {S:Rf} (x:bT h F v S) (k:Kept h h' B) (hB : ∀ b,b<h.next→B b→F b):bT h' F v S:=by
 obtain ⟨a,c,rfl,h1,h2,h3⟩:=x
 refine ⟨a,c,rfl,k.bytes h1 (fun y hy hn hb => ?_),h2,h3⟩
 subst hy
 obtain ⟨b,off,s,e,hlt⟩:=er h1 hn
 cases e
 exact h3 _ rfl hn (hB _ hlt hb)
theorem bT.bS {h h':af} {F:Nat→Prop} {v:Value} {S:Rf} (x:bT h F v S) (k:Old h h'):bT h' F v S:=x.aG k (fun _ _ h=>h.elim)
theorem bT.mono {h:af} {F G:Nat→Prop} {v:Value} {S:Rf} (x:bT h F v S) (hG : ∀ b,G b→F b):bT h G v S:=by
 obtain ⟨a,c,rfl,h1,h2,h3⟩:=x
 exact ⟨a,c,rfl,h1,h2,fun y hy hn hg=>h3 y hy hn (hG _ hg)⟩
def bC:dV := [(.slice none 0 0),(.bool false),(.bool false),(.int .i64 0),(.int .i64 0),(.int .i64 0)]
theorem ld63 (v:Value) (h:af):ld Try.prog 63 v h=bD 6 v h:=by
 unfold ld
 rw [show aggT Try.prog 63=some true by kernel_rfl,show eh Try.prog 63=some 6 by kernel_rfl]
theorem res_rf1 {rs:List ResultVar} {n k:Nat} (hr:rs = [.cell k 63]) (hk:k<n) (x:Nat→Value) {h:af} {v:Value} (e:bD 6 (x k) h=some (v,h)):al Try.prog rs (aZ n x) h=some (v,h):=by
 subst hr
 have hx:(aZ n x).getD k undef=x k:=by
  unfold aZ
  simp [hk]
 simp only [al,dS,hx,ld63,e]
 rfl
theorem cQ {rs:List ResultVar} {n k t:Nat} (hr:rs = [.cell k 63,.tmp t]) (hk:k<n) (ht:t<n) (x:Nat→Value) {h:af} {v:Value} (e:bD 6 (x k) h=some (v,h)):al Try.prog rs (aZ n x) h=some (.tuple #[v,x t],h):=by
 subst hr
 have hx:(aZ n x).getD k undef=x k:=by
  unfold aZ
  simp [hk]
 have hy:(aZ n x).getD t undef=x t:=by
  unfold aZ
  simp [ht]
 simp only [al,List.mapM_cons,List.mapM_nil,dS,hx,hy,ld63,e]
 rfl
theorem db (S:Rf) (a:Option Addr) (n c:Nat):bI (S.cells (.slice a n c))=true:=rfl
theorem aR (S:Rf) (a:Option Addr) (n c:Nat):Abs.cN (S.cells (.slice a n c))=true:=rfl
theorem cZ {h:af} {F:Nat→Prop} {v:Value} {S:Rf} (x:bT h F v S) : ∃ a c g,v = .agg (S.cells (.slice a S.aU.length c)).toArray∧box v h=some (ptr h.next 0,g)∧g.get h.next=some (S.cells (.slice a S.aU.length c))∧Old h g∧g.next=h.next+1 ∧
  dp bC g=some (ptr (h.next+1) 0,g.alloc bC)∧(g.alloc bC).get (h.next+1)=some bC∧Old h (g.alloc bC)∧(g.alloc bC).get h.next=some (S.cells (.slice a S.aU.length c))∧(g.alloc bC).next=h.next+2 ∧
  av a S.aU.length h=some S.aU∧cU a S.aU.length c=true ∧ ∀ y,a=some y→0<S.aU.length → ¬F y.block:=by
 obtain ⟨a,c,rfl,h1,h2,h3⟩:=x
 have o1:Old h (h.alloc (S.cells (.slice a S.aU.length c))):=Kept.alloc _ _ _
 have g1:(h.alloc (S.cells (.slice a S.aU.length c))).get h.next=some (S.cells (.slice a S.aU.length c)):=by rw [af.aD,if_pos rfl]
 refine ⟨a,c,h.alloc (S.cells (.slice a S.aU.length c)),rfl,rfl,g1,o1,af.aW ..,rfl,?_,o1.trans (Kept.alloc _ _ _),af.cM g1 _,rfl,h1,h2,h3⟩
 rw [af.aD,if_pos (by rw [af.aW])]
theorem dD {h:af} {b:Nat} {k:dV} (hk:h.get b=some k) (hl:k.length=6) (hh:Abs.cN k=true):bD 6 (ptr b 0) h=some (.agg k.toArray,h):=cz hk hl hh
theorem rf_st {h:af} {b:Nat} {k k':dV} (hk:h.get b=some k) (h0:h.n0≤b) (hl:k.length=6) (hl':k'.length=6) (ho:bI k'=true):bK 6 (ptr b 0) (.agg k'.toArray) h=some (undef,h.set b k'):=stN_whole hk h0 hl hl' ho
theorem is51:ch Try.prog 51 Try.f51:=⟨by kernel_rfl,by kernel_rfl,by kernel_rfl,by kernel_rfl⟩
theorem quo128 (n:Nat) (h:n≤100000000):bin Try.prog .quo 3 (ao n) (.int .i64 128)=some (ao (n/128)):=by
 rw [bin_quo _ _ _ _ _ (by decide)]
 have:((n:Nat):Int).tdiv 128=((n/128:Nat):Int):=by rw [Int.tdiv_eq_ediv_of_nonneg (by omega)];rfl
 rw [this,bE (by omega) (by omega)]
theorem r51 {h:af} {F:Nat→Prop} {v:Value} {S:Rf} (x:bT h F v S) (hl:S.aU.length≤1000000) : ∃ h',CD 51 [v] h=some (ao (S.aU.length/128),h')∧Old h h':=by
 obtain ⟨a,c,g,rfl,b1,b2,b3,_⟩:=cZ x
 refine ⟨g,aK is51 rfl ((t51_eq _ _ _).trans ?_),b3⟩
 have l0:aV (ptr h.next 0) g=some (.slice a S.aU.length c,g):=aJ b2 rfl
 have hll:cK (.slice a S.aU.length c)=some (ao S.aU.length):=rfl
 unfold t51
 simp -implicitDefEqProofs only [b1,ae,ax,Nat.add_zero,aj,l0,hll,quo128 _ (show S.aU.length≤100000000 by omega)]
theorem is104:ch Try.prog 104 Try.f104:=⟨by kernel_rfl,by kernel_rfl,by kernel_rfl,by kernel_rfl⟩
theorem r104 {h:af} {F:Nat→Prop} {v:Value} {S:Rf} (x:bT h F v S) (hl:S.aU.length≤1000000) {i:Nat} (hi:128*i+128≤S.aU.length) :
  ∃ v' h',CD 104 [v,ao i] h=some (v',h')∧cY h' h.next v' ((S.aU.drop (128*i)).take 128)∧Old h h':=by
 obtain ⟨a,c,g,rfl,b1,b2,b3,b4,_,_,_,_,_,s1,s2,_⟩:=cZ x
 have oA:Old g (g.alloc []):=Kept.alloc _ _ _
 have nA:(g.alloc []).next=g.next+1:=af.aW ..
 have hbs:dY 1 (.int .u8 0) 0 [] g=some (.slice (some ⟨g.next,0,none⟩) 0 0,g.alloc []):=rfl
 have l0:aV (ptr h.next 0) (g.alloc [])=some (.slice a S.aU.length c,g.alloc []):=aJ (af.cM b2 _) rfl
 have own0:cY (g.alloc []) h.next (.slice (some ⟨g.next,0,none⟩) 0 0) []:=⟨cl.empty _ (by omega),by simp⟩
 have sA:=Old.bytes (b3.trans oA) s1
 obtain ⟨a',c',e1,e2,e3⟩:=eQ (lo:=128*i) (hi:=128*i+128) (vl:=some (ao (128*i))) (vh:=some (ao (128*i+128))) s2 sA (by omega) hi (by
   have:=iC s2
   unfold cp
   simp only [ao]
   rw [if_pos (by omega),Int.toNat_natCast]) (by
   unfold cp
   simp only [ao]
   rw [if_pos (by omega),Int.toNat_natCast])
 rw [Nat.add_sub_cancel_left] at e1 e2 e3
 obtain ⟨v',g2,f1,f2,f3,_⟩:=dK own0 (by rw [oA.n0,b3.n0];exact h.aF) (by omega) e2 (c:=c') (by simp)
 rw [List.nil_append] at f2
 refine ⟨v',g2,aK is104 rfl ((t104_eq _ _ _ _).trans ?_),f2,(b3.trans oA).bM f3 (fun d hd hb => ?_)⟩
 ·unfold t104
  simp -implicitDefEqProofs only [b1,ae,hbs,ax,Nat.add_zero,aj,l0,mul3 (a:=128) (show 128*i≤9223372036854775807 by omega),show bin Try.prog .mul 3 (.int .i64 128) (ao i)=some (ao (128*i)) from mul3 (a:=128) (by omega),show bin Try.prog .add 3 (ao (128*i)) (.int .i64 128)=some (ao (128*i+128)) from gW (b:=128) (by omega),e1,f1]
 ·have:dX (.slice (some ⟨g.next,0,none⟩) 0 0)=some g.next:=rfl
  rw [this] at hb
  cases hb
  omega
theorem is35:ch Try.prog 35 Try.f35:=⟨by kernel_rfl,by kernel_rfl,by kernel_rfl,by kernel_rfl⟩
def Rf.new (n:Nat):Rf:=⟨List.replicate (128*n) 0,false,false,0,0,0⟩
theorem r35 (h:af) {n:Nat} (h4:4≤n) (hn:n≤4096) : ∃ v h',CD 35 [ao n] h=some (.tuple #[v,.int .i64 0],h')∧bT h' (fun c=>c<h.next) v (Rf.new n)∧Old h h':=by
 have o1:Old h (h.alloc bC):=Kept.alloc _ _ _
 have g1:(h.alloc bC).get h.next=some bC:=by rw [af.aD,if_pos rfl]
 have hnew:dp bC h=some (ptr h.next 0,h.alloc bC):=rfl
 have n1:(h.alloc bC).next=h.next+1:=af.aW ..
 have n01:(h.alloc bC).n0≤h.next:=h.aF
 generalize h.alloc bC=g at *
 have hmk:mkR 1 1 (.int .u8 0) (ao (128*n)) (ao (128*n)) g=some (cx g (128*n),g.alloc ((List.replicate (128*n) 0).map u8)):=mk1 (Nat.le_refl _) (by omega)
 have g2:(g.alloc ((List.replicate (128*n) 0).map u8)).get h.next=some bC:=af.cM g1 _
 have gi:(g.alloc ((List.replicate (128*n) 0).map u8)).get g.next=some ((List.replicate (128*n) 0).map u8):=by rw [af.aD,if_pos rfl]
 have o2:Old h (g.alloc ((List.replicate (128*n) 0).map u8)):=o1.trans (Kept.alloc _ _ _)
 have n02:(g.alloc ((List.replicate (128*n) 0).map u8)).n0≤h.next:=n01
 have hbl:ff [(.slice none 0 0),(.bool false),(.bool false),(.int .i64 0),(.int .i64 0),(.int .i64 0)] [(0,1,cx g (128*n))]=some (.agg ((Rf.new n).cells (cx g (128*n))).toArray):=rfl
 generalize g.alloc ((List.replicate (128*n) 0).map u8)=q at *
 have hst:=rf_st (k':=(Rf.new n).cells (cx g (128*n))) g2 n02 rfl rfl rfl
 have g3:(q.set h.next ((Rf.new n).cells (cx g (128*n)))).get h.next=some ((Rf.new n).cells (cx g (128*n))):=af.a9 n02 g2 _
 have gi3:(q.set h.next ((Rf.new n).cells (cx g (128*n)))).get g.next=some ((List.replicate (128*n) 0).map u8):=(af.bm n02 (q.aS g2) _ (by omega)).trans gi
 have o3:Old h (q.set h.next ((Rf.new n).cells (cx g (128*n)))):=o2.bM (Kept.set (B:=fun c=>c=h.next) n02 g2 (.inr rfl)) (fun c hc e=>by omega)
 have hld:=dD g3 rfl rfl
 have e1 : ¬((n:Int)<4):=by omega
 have e2 : ¬((n:Int)>4096):=by omega
 refine ⟨.agg ((Rf.new n).cells (cx g (128*n))).toArray,q.set h.next ((Rf.new n).cells (cx g (128*n))),aK is35 rfl ((t35_eq _ _ _).trans ?_),⟨some ⟨g.next,0,none⟩,128*n,?_,?_,?_,?_⟩,o3⟩
 ·unfold t35
  have hnew':dp [(.slice none 0 0),(.bool false),(.bool false),(.int .i64 0),(.int .i64 0),(.int .i64 0)] h=some (ptr h.next 0,g):=hnew
  simp -implicitDefEqProofs only [hnew',ae,bB,aj,e1,decide_false,az,beq_self_eq_true,ay,dB,e2,Bool.false_eq_true,if_false,show bin Try.prog .mul 3 (.int .i64 128) (ao n)=some (ao (128*n)) from mul3 (a:=128) (by omega),hmk,hbl,hst]
  exact cQ (rs:=Try.f35.results.toList) (n:=15) (k:=2) (t:=3) (by kernel_rfl) (by decide) (by decide) _ hld
 ·rw [show (Rf.new n).aU.length=128*n by simp [Rf.new]]<;>rfl
 ·rw [show (Rf.new n).aU.length=128*n by simp [Rf.new]]
  rw [cH (l:=List.replicate (128*n) 0) gi3 (by simp) (by intro y hy;rw [List.eq_of_mem_replicate hy];decide),List.drop_zero,List.take_of_length_le (by simp)]
  rfl
 ·unfold cU
  simp [Rf.new]
 ·intro y hy _ hlt
  cases hy
  have:g.next<h.next:=hlt
  omega
theorem r35_bad (h:af) {n:Int} (hn : ¬(4≤n∧n≤4096)) : ∃ h',CD 35 [.int .i64 n] h=some (.tuple #[.agg bC.toArray,.int .i64 2],h')∧Old h h':=by
 have g1:(h.alloc bC).get h.next=some bC:=by rw [af.aD,if_pos rfl]
 have hnew:dp [(.slice none 0 0),(.bool false),(.bool false),(.int .i64 0),(.int .i64 0),(.int .i64 0)] h=some (ptr h.next 0,h.alloc bC):=rfl
 have n01:(h.alloc bC).n0≤h.next:=h.aF
 have hbl:ff [(.slice none 0 0),(.bool false),(.bool false),(.int .i64 0),(.int .i64 0),(.int .i64 0)] []=some (.agg bC.toArray):=rfl
 have hst:=rf_st (k':=bC) g1 n01 rfl rfl rfl
 have g3:((h.alloc bC).set h.next bC).get h.next=some bC:=af.a9 n01 g1 _
 have o3:Old h ((h.alloc bC).set h.next bC):=(Kept.alloc h bC (fun _=>False)).bM (Kept.set (B:=fun c=>c=h.next) n01 g1 (.inr rfl)) (fun c hc e=>by omega)
 have hld:=dD g3 rfl rfl
 refine ⟨(h.alloc bC).set h.next bC,aK is35 rfl ((t35_eq _ _ _).trans ?_),o3⟩
 unfold t35
 simp -implicitDefEqProofs only [hnew,ae,bB,aj,az]
 by_cases h1:n<4
 ·simp -implicitDefEqProofs only [decide_eq_true h1,sf,aE,ae,if_true,hbl,aj,hst]
  exact cQ (rs:=Try.f35.results.toList) (n:=15) (k:=2) (t:=3) (by kernel_rfl) (by decide) (by decide) _ hld
 ·have h2:n>4096:=by omega
  simp -implicitDefEqProofs only [decide_eq_false h1,beq_self_eq_true,ay,ae,aj,dB,decide_eq_true h2,Bool.false_eq_true,if_false,hbl,hst]
  exact cQ (rs:=Try.f35.results.toList) (n:=15) (k:=2) (t:=3) (by kernel_rfl) (by decide) (by decide) _ hld
end Go.Proofs.Ytcmfgmhadeeieaa

namespace Go.Proofs.Ytcmfgmhadeeieaa
open Go Go.Abs
theorem hZ {h:af} {b i:Nat} {k k':dV} {v:Value} (g:h.get b=some k) (h0:h.n0≤b) (hl:k.length=6) (hi:i<6) (hs:k.set i v=k') (h1:v.cells = #[v]) (h2:v.oneCell'=true) :
  bK 1 (ptr b i) v h=some (undef,h.set b k')∧(h.set b k').get b=some k'∧Kept h (h.set b k') (fun c=>c=b):=by
 subst hs
 exact ⟨dm g (by omega) h0 h1 h2,af.a9 h0 g _,Kept.set h0 g (.inr rfl)⟩
theorem rf_end {h0 h:af} {b1 b2:Nat} {k z:dV} (g1:h.get b1=some k) (g2:h.get b2=some z) (hn:h.n0≤b2) (hl:k.length=6) (hz:z.length=6) (ho:bI k=true) (hh:Abs.cN k=true) (bS:Old h0 h) (hb:h0.next≤b2) :
  bD 6 (ptr b1 0) h=some (.agg k.toArray,h)∧bK 6 (ptr b2 0) (.agg k.toArray) h=some (undef,h.set b2 k)∧bD 6 (ptr b2 0) (h.set b2 k)=some (.agg k.toArray,h.set b2 k)∧Old h0 (h.set b2 k):=
 ⟨dD g1 hl hh,rf_st g2 hn hz hl ho,dD (af.a9 hn g2 _) hl hh,bS.bM (Kept.set (B:=fun c=>c=b2) hn g2 (.inr rfl)) (fun c hc e=>by omega)⟩
theorem bT.put {h h':af} {F:Nat→Prop} {S S':Rf} {a:Option Addr} {c:Nat} (s1:av a S.aU.length h=some S.aU) (s2:cU a S.aU.length c=true) (s3 : ∀ y,a=some y→0<S.aU.length → ¬F y.block) (o:Old h h') (hi:S'.aU=S.aU):bT h' F (.agg (S'.cells (.slice a S.aU.length c)).toArray) S':=
 ⟨a,c,by rw [hi],by rw [hi];exact Old.bytes o s1,by rw [hi];exact s2,by rw [hi];exact s3⟩
def Rf.off (S:Rf):Rf:={ S with down:=true,bX:=false,after:=0,aG:=0,bw:=if S.down then S.bw else IntKind.wrap .i64 (S.bw+1) }
def Rf.on (S:Rf):Rf:={ S with down:=false,bX:=false,after:=0,aG:=0 }
def Rf.wipe (S:Rf):Rf:={ S with aU:=List.replicate S.aU.length 0 }
def Rf.arm (S:Rf) (after aG:Int):Rf×Int:=if S.down then (S,9) else if after<0∨aG<0∨128<aG then (S,2) else ({ S with bX:=true,after:=after,aG:=aG },0)
theorem is79:ch Try.prog 79 Try.f79:=⟨by kernel_rfl,by kernel_rfl,by kernel_rfl,by kernel_rfl⟩
theorem is80:ch Try.prog 80 Try.f80:=⟨by kernel_rfl,by kernel_rfl,by kernel_rfl,by kernel_rfl⟩
theorem is82:ch Try.prog 82 Try.f82:=⟨by kernel_rfl,by kernel_rfl,by kernel_rfl,by kernel_rfl⟩
theorem is78:ch Try.prog 78 Try.f78:=⟨by kernel_rfl,by kernel_rfl,by kernel_rfl,by kernel_rfl⟩
theorem is77:ch Try.prog 77 Try.f77:=⟨by kernel_rfl,by kernel_rfl,by kernel_rfl,by kernel_rfl⟩
theorem results79:Try.f79.results.toList = [.cell 2 63]:=by kernel_rfl
theorem results80:Try.f80.results.toList = [.cell 2 63]:=by kernel_rfl
theorem results82:Try.f82.results.toList = [.cell 2 63]:=by kernel_rfl
theorem results78:Try.f78.results.toList = [.cell 6 63,.tmp 7]:=by kernel_rfl
theorem results70:Try.f70.results.toList = [.cell 6 63,.tmp 7]:=by kernel_rfl
theorem results83:Try.f83.results.toList = [.cell 8 63,.tmp 9]:=by kernel_rfl
theorem results99:Try.f99.results.toList = [.cell 8 63]:=by kernel_rfl
theorem results49:Try.f49.results.toList = [.cell 6 63,.tmp 7]:=by kernel_rfl
theorem newC6 {h g:af} {p:Value} (e:dp bC h=some (p,g)):dp [(.slice none 0 0),(.bool false),(.bool false),(.int .i64 0),(.int .i64 0),(.int .i64 0)] h=some (p,g):=e
section
variable {h:af} {F:Nat→Prop} {v:Value} {S:Rf} (x:bT h F v S)
include x
theorem r80 : ∃ v' h',CD 80 [v] h=some (v',h')∧bT h' F v' S.on∧Old h h':=by
 obtain ⟨a,c,g,rfl,b1,_,_,b4,b5,b6,b7,b8,b9,s1,s2,s3⟩:=cZ x
 have b5:=newC6 b5
 have hn0:=h.aF
 have n0:(g.alloc bC).n0=h.n0:=b7.n0
 generalize g.alloc bC=q0 at *
 obtain ⟨e1,g1,k1⟩:=hZ (i:=1) (v := .bool false) (k':=({ S with down:=false }:Rf).cells (.slice a S.aU.length c)) b8 (by omega) rfl (by decide) rfl rfl rfl
 generalize q0.set h.next (({ S with down:=false }:Rf).cells (.slice a S.aU.length c))=q1 at *
 obtain ⟨e2,g2,k2⟩:=hZ (i:=2) (v := .bool false) (k':=({ S with down:=false,bX:=false }:Rf).cells (.slice a S.aU.length c)) g1 (by rw [k1.n0];omega) rfl (by decide) rfl rfl rfl
 generalize q1.set h.next (({ S with down:=false,bX:=false }:Rf).cells (.slice a S.aU.length c))=q2 at *
 obtain ⟨e3,g3,k3⟩:=hZ (i:=3) (v := .int .i64 0) (k':=({ S with down:=false,bX:=false,after:=0 }:Rf).cells (.slice a S.aU.length c)) g2 (by rw [k2.n0,k1.n0];omega) rfl (by decide) rfl rfl rfl
 generalize q2.set h.next (({ S with down:=false,bX:=false,after:=0 }:Rf).cells (.slice a S.aU.length c))=q3 at *
 obtain ⟨e4,g4,k4⟩:=hZ (i:=4) (v := .int .i64 0) (k':=S.on.cells (.slice a S.aU.length c)) g3 (by rw [k3.n0,k2.n0,k1.n0];omega) rfl (by decide) rfl rfl rfl
 generalize q3.set h.next (S.on.cells (.slice a S.aU.length c))=q4 at *
 have k04:Kept q0 q4 (fun c=>c=h.next):=((k1.trans k2).trans k3).trans k4
 have z4:q4.get (h.next+1)=some bC:=k04.cB b6 (by omega)
 have o4:Old h q4:=b7.bM k04 (fun c hc e=>by omega)
 obtain ⟨f1,f2,f3,f4⟩:=rf_end (h0:=h) g4 z4 (by rw [o4.n0];omega) rfl rfl (db _ _ _ _) (aR _ _ _ _) o4 (by omega)
 refine ⟨_,_,aK is80 rfl ((t80_eq _ _ _).trans ?_),bT.put s1 s2 s3 f4 rfl,f4⟩
 unfold t80
 simp -implicitDefEqProofs only [b1,ae,b5,ax,Nat.zero_add,aj,e1,e2,e3,e4,f1,f2]
 exact res_rf1 (k:=2) results80 (by decide) _ f3
theorem r79 : ∃ v' h',CD 79 [v] h=some (v',h')∧bT h' F v' S.off∧Old h h':=by
 obtain ⟨a,c,g,rfl,b1,_,_,b4,b5,b6,b7,b8,b9,s1,s2,s3⟩:=cZ x
 have b5:=newC6 b5
 have hn0:=h.aF
 have n0:(g.alloc bC).n0=h.n0:=b7.n0
 generalize g.alloc bC=q0 at *
 have l1:aV (ptr h.next 1) q0=some (.bool S.down,q0):=aJ b8 rfl
 have l5:aV (ptr h.next 5) q0=some (.int .i64 S.bw,q0):=aJ b8 rfl
 have step : ∃ qa,Kept q0 qa (fun c=>c=h.next)∧qa.get h.next=some (({ S with bw:=if S.down then S.bw else IntKind.wrap .i64 (S.bw+1) }:Rf).cells (.slice a S.aU.length c)) ∧
   (S.down=false→bK 1 (ptr h.next 5) (.int .i64 (IntKind.wrap .i64 (S.bw+1))) q0=some (undef,qa))∧(S.down=true→qa=q0):=by
  by_cases hd:S.down=true
  ·refine ⟨q0,Kept.refl _ _,?_,fun h=>absurd hd (by rw [h];decide),fun _=>rfl⟩
   rw [if_pos hd]
   exact b8
  ·obtain ⟨e1,g1,k1⟩:=hZ (i:=5) (v := .int .i64 (IntKind.wrap .i64 (S.bw+1))) (k':=({ S with bw:=IntKind.wrap .i64 (S.bw+1) }:Rf).cells (.slice a S.aU.length c)) b8 (by omega) rfl (by decide) rfl rfl rfl
   refine ⟨_,k1,?_,fun _=>e1,fun h=>absurd h hd⟩
   rw [if_neg hd]
   exact g1
 obtain ⟨qa,ka,ga,ha1,ha2⟩:=step
 generalize hT:(if S.down then S.bw else IntKind.wrap .i64 (S.bw+1))=T at *
 obtain ⟨e1,g1,k1⟩:=hZ (i:=1) (v := .bool true) (k':=({ S with bw:=T,down:=true }:Rf).cells (.slice a S.aU.length c)) ga (by rw [ka.n0];omega) rfl (by decide) rfl rfl rfl
 generalize qa.set h.next (({ S with bw:=T,down:=true }:Rf).cells (.slice a S.aU.length c))=q1 at *
 obtain ⟨e2,g2,k2⟩:=hZ (i:=2) (v := .bool false) (k':=({ S with bw:=T,down:=true,bX:=false }:Rf).cells (.slice a S.aU.length c)) g1 (by rw [k1.n0,ka.n0];omega) rfl (by decide) rfl rfl rfl
 generalize q1.set h.next (({ S with bw:=T,down:=true,bX:=false }:Rf).cells (.slice a S.aU.length c))=q2 at *
 obtain ⟨e3,g3,k3⟩:=hZ (i:=3) (v := .int .i64 0) (k':=({ S with bw:=T,down:=true,bX:=false,after:=0 }:Rf).cells (.slice a S.aU.length c)) g2 (by rw [k2.n0,k1.n0,ka.n0];omega) rfl (by decide) rfl rfl rfl
 generalize q2.set h.next (({ S with bw:=T,down:=true,bX:=false,after:=0 }:Rf).cells (.slice a S.aU.length c))=q3 at *
 obtain ⟨e4,g4,k4⟩:=hZ (i:=4) (v := .int .i64 0) (k':=({ S with bw:=T,down:=true,bX:=false,after:=0,aG:=0 }:Rf).cells (.slice a S.aU.length c)) g3 (by rw [k3.n0,k2.n0,k1.n0,ka.n0];omega) rfl (by decide) rfl rfl rfl
 generalize q3.set h.next (({ S with bw:=T,down:=true,bX:=false,after:=0,aG:=0 }:Rf).cells (.slice a S.aU.length c))=q4 at *
 have k04:Kept q0 q4 (fun c=>c=h.next):=(((ka.trans k1).trans k2).trans k3).trans k4
 have z4:q4.get (h.next+1)=some bC:=k04.cB b6 (by omega)
 have o4:Old h q4:=b7.bM k04 (fun c hc e=>by omega)
 obtain ⟨f1,f2,f3,f4⟩:=rf_end (h0:=h) g4 z4 (by rw [o4.n0];omega) rfl rfl (db _ _ _ _) (aR _ _ _ _) o4 (by omega)
 refine ⟨_,_,aK is79 rfl ((t79_eq _ _ _).trans ?_),bT.put (S':=S.off) s1 s2 s3 f4 rfl,f4⟩
 have hoff:S.off={ S with bw:=T,down:=true,bX:=false,after:=0,aG:=0 }:=by unfold Rf.off;rw [hT]
 rw [hoff]
 unfold t79
 cases hd:S.down with
 |true=>
  rw [hd] at l1
  have:=ha2 hd
  subst this
  simp -implicitDefEqProofs only [b1,ae,b5,ax,Nat.zero_add,aj,l1,bR,Bool.not_true,e1,e2,e3,e4,f1,f2]
  exact res_rf1 (k:=2) results79 (by decide) _ f3
 |false=>
  rw [hd] at l1
  have e0:=ha1 hd
  simp -implicitDefEqProofs only [b1,ae,b5,ax,Nat.zero_add,aj,l1,bR,Bool.not_false,l5,dM,e0,e1,e2,e3,e4,f1,f2]
  exact res_rf1 (k:=2) results79 (by decide) _ f3
theorem r82 (hl:S.aU.length≤1000000) : ∃ v' h',CD 82 [v] h=some (v',h')∧bT h' (fun c=>c<h.next) v' S.wipe∧Old h h':=by
 obtain ⟨a,c,g,rfl,b1,_,_,b4,b5,b6,b7,b8,b9,s1,s2,s3⟩:=cZ x
 have b5:=newC6 b5
 have hn0:=h.aF
 generalize g.alloc bC=q0 at *
 have l0:aV (ptr h.next 0) q0=some (.slice a S.aU.length c,q0):=aJ b8 rfl
 have hll:cK (.slice a S.aU.length c)=some (ao S.aU.length):=rfl
 have hmk:mkR 1 1 (.int .u8 0) (ao S.aU.length) (ao S.aU.length) q0=some (cx q0 S.aU.length,q0.alloc ((List.replicate S.aU.length 0).map u8)):=mk1 (Nat.le_refl _) (by omega)
 have oM:Old q0 (q0.alloc ((List.replicate S.aU.length 0).map u8)):=Kept.alloc _ _ _
 have gm:=af.cM b8 ((List.replicate S.aU.length 0).map u8)
 have zm:=af.cM b6 ((List.replicate S.aU.length 0).map u8)
 have im:(q0.alloc ((List.replicate S.aU.length 0).map u8)).get q0.next=some ((List.replicate S.aU.length 0).map u8):=by rw [af.aD,if_pos rfl]
 generalize q0.alloc ((List.replicate S.aU.length 0).map u8)=q1 at *
 have o1:=b7.trans oM
 obtain ⟨e2,g2,k2⟩:=hZ (i:=0) (v:=cx q0 S.aU.length) (k':=S.wipe.cells (cx q0 S.aU.length)) gm (by rw [o1.n0];omega) rfl (by decide) rfl rfl rfl
 generalize q1.set h.next (S.wipe.cells (cx q0 S.aU.length))=q2 at *
 have z2:q2.get (h.next+1)=some bC:=k2.cB zm (by omega)
 have i2:q2.get q0.next=some ((List.replicate S.aU.length 0).map u8):=k2.cB im (by omega)
 have o2:Old h q2:=o1.bM k2 (fun c hc e=>by omega)
 obtain ⟨f1,f2,f3,f4⟩:=rf_end (h0:=h) g2 z2 (by rw [o2.n0];omega) rfl rfl (db _ _ _ _) (aR _ _ _ _) o2 (by omega)
 have i3:(q2.set (h.next+1) (S.wipe.cells (cx q0 S.aU.length))).get q0.next=some ((List.replicate S.aU.length 0).map u8):=(af.bm (by rw [o2.n0];omega) (q2.aS z2) _ (by omega)).trans i2
 have hwl:S.wipe.aU.length=S.aU.length:=by simp [Rf.wipe]
 refine ⟨_,_,aK is82 rfl ((t82_eq _ _ _).trans ?_),⟨some ⟨q0.next,0,none⟩,S.aU.length,by rw [hwl]<;>rfl,?_,?_,?_⟩,f4⟩
 ·unfold t82
  simp -implicitDefEqProofs only [b1,ae,b5,ax,Nat.add_zero,aj,l0,hll,hmk,e2,f1,f2]
  exact res_rf1 (k:=2) results82 (by decide) _ f3
 ·rw [hwl,cH (l:=List.replicate S.aU.length 0) i3 (by simp) (by intro y hy;rw [List.eq_of_mem_replicate hy];decide),List.drop_zero,List.take_of_length_le (by simp)]
  rfl
 ·rw [hwl]
  unfold cU
  simp
 ·intro y hy _ hlt
  cases hy
  have:q0.next<h.next:=hlt
  omega
theorem r78 (after aG:Int) : ∃ v' h',CD 78 [v,.int .i64 after,.int .i64 aG] h=some (.tuple #[v',.int .i64 (S.arm after aG).2],h')∧bT h' F v' (S.arm after aG).1∧Old h h':=by
 obtain ⟨a,c,g,rfl,b1,_,_,b4,b5,b6,b7,b8,b9,s1,s2,s3⟩:=cZ x
 have b5:=newC6 b5
 have hn0:=h.aF
 generalize g.alloc bC=q0 at *
 have n0:q0.n0=h.n0:=b7.n0
 have l1:aV (ptr h.next 1) q0=some (.bool S.down,q0):=aJ b8 rfl
 obtain ⟨f1,f2,f3,f4⟩:=rf_end (h0:=h) b8 b6 (by omega) rfl rfl (db _ _ _ _) (aR _ _ _ _) b7 (by omega)
 cases hd:S.down with
 |true=>
  rw [hd] at l1
  have ha:S.arm after aG=(S,9):=by unfold Rf.arm;rw [hd,if_pos rfl]
  rw [ha]
  refine ⟨_,_,aK is78 rfl ((t78_eq _ _ _ _ _).trans ?_),bT.put s1 s2 s3 f4 rfl,f4⟩
  unfold t78
  simp -implicitDefEqProofs only [b1,ae,b5,ax,Nat.zero_add,aj,l1,f1,f2]
  exact cQ (k:=6) (t:=7) results78 (by decide) (by decide) _ f3
 |false=>
  rw [hd] at l1
  by_cases hbad:after<0∨aG<0∨128<aG
  ·have ha:S.arm after aG=(S,2):=by unfold Rf.arm;rw [hd,if_neg (by decide),if_pos hbad]
   rw [ha]
   refine ⟨_,_,aK is78 rfl ((t78_eq _ _ _ _ _).trans ?_),bT.put s1 s2 s3 f4 rfl,f4⟩
   unfold t78
   simp -implicitDefEqProofs only [b1,ae,b5,ax,Nat.zero_add,aj,l1,bB,az]
   by_cases c1:after<0
   ·simp -implicitDefEqProofs only [decide_eq_true c1,sf,aE,ae,if_true,az,f1,f2]
    exact cQ (k:=6) (t:=7) results78 (by decide) (by decide) _ f3
   by_cases c2:aG<0
   ·simp -implicitDefEqProofs only [decide_eq_false c1,beq_self_eq_true,ay,ae,aj,bB,Bool.false_eq_true,if_false,az,decide_eq_true c2,sf,aE,if_true,f1,f2]
    exact cQ (k:=6) (t:=7) results78 (by decide) (by decide) _ f3
   have c3:aG>128:=by omega
   simp -implicitDefEqProofs only [decide_eq_false c1,beq_self_eq_true,ay,ae,aj,bB,dB,Bool.false_eq_true,if_false,az,decide_eq_false c2,decide_eq_true c3,f1,f2]
   exact cQ (k:=6) (t:=7) results78 (by decide) (by decide) _ f3
  ·have ha:S.arm after aG=({ S with bX:=true,after:=after,aG:=aG },0):=by unfold Rf.arm;rw [hd,if_neg (by decide),if_neg hbad]
   rw [ha]
   have c1 : ¬after<0:=fun h=>hbad (.inl h)
   have c2 : ¬aG<0:=fun h=>hbad (.inr (.inl h))
   have c3 : ¬aG>128:=fun h=>hbad (.inr (.inr h))
   obtain ⟨e2,g2,k2⟩:=hZ (i:=2) (v := .bool true) (k':=({ S with bX:=true }:Rf).cells (.slice a S.aU.length c)) b8 (by omega) rfl (by decide) rfl rfl rfl
   generalize q0.set h.next (({ S with bX:=true }:Rf).cells (.slice a S.aU.length c))=q2 at *
   obtain ⟨e3,g3,k3⟩:=hZ (i:=3) (v := .int .i64 after) (k':=({ S with bX:=true,after:=after }:Rf).cells (.slice a S.aU.length c)) g2 (by rw [k2.n0];omega) rfl (by decide) rfl rfl rfl
   generalize q2.set h.next (({ S with bX:=true,after:=after }:Rf).cells (.slice a S.aU.length c))=q3 at *
   obtain ⟨e4,g4,k4⟩:=hZ (i:=4) (v := .int .i64 aG) (k':=({ S with bX:=true,after:=after,aG:=aG }:Rf).cells (.slice a S.aU.length c)) g3 (by rw [k3.n0,k2.n0];omega) rfl (by decide) rfl rfl rfl
   generalize q3.set h.next (({ S with bX:=true,after:=after,aG:=aG }:Rf).cells (.slice a S.aU.length c))=q4 at *
   have k04:Kept q0 q4 (fun c=>c=h.next):=(k2.trans k3).trans k4
   have z4:q4.get (h.next+1)=some bC:=k04.cB b6 (by omega)
   have o4:Old h q4:=b7.bM k04 (fun c hc e=>by omega)
   obtain ⟨p1,p2,p3,p4⟩:=rf_end (h0:=h) g4 z4 (by rw [o4.n0];omega) rfl rfl (db _ _ _ _) (aR _ _ _ _) o4 (by omega)
   refine ⟨_,_,aK is78 rfl ((t78_eq _ _ _ _ _).trans ?_),bT.put (S':={ S with bX:=true,after:=after,aG:=aG }) s1 s2 s3 p4 rfl,p4⟩
   unfold t78
   simp -implicitDefEqProofs only [b1,ae,b5,ax,Nat.zero_add,aj,l1,bB,az,decide_eq_false c1,beq_self_eq_true,ay,dB,Bool.false_eq_true,if_false,decide_eq_false c2,decide_eq_false c3,e2,e3,e4,p1,p2]
   exact cQ (k:=6) (t:=7) results78 (by decide) (by decide) _ p3
def Rf.n (S:Rf):Nat:=S.aU.length/128
def Rf.fault (S:Rf) (i:Int):Int:=if S.down then 9 else if i<0∨(S.n:Int)≤i then 2 else 0
theorem r77 (hl:S.aU.length≤1000000) (i:Int) : ∃ w h',CD 77 [v,.int .i64 i] h=some (.tuple #[w,.int .i64 (S.fault i)],h')∧Old h h'∧((S.fault i≠0∧w = .slice none 0 0)∨(S.fault i=0∧cY h' h.next w ((S.aU.drop (128*i.toNat)).take 128))):=by
 have x':=x
 obtain ⟨a,c,g,rfl,b1,b2,b3,b4,_,_,_,_,_,s1,s2,s3⟩:=cZ x
 have l1:aV (ptr h.next 1) g=some (.bool S.down,g):=aJ b2 rfl
 have hld:=dD b2 rfl (aR _ _ _ _)
 cases hd:S.down with
 |true=>
  rw [hd] at l1
  have hf:S.fault i=9:=by unfold Rf.fault;rw [hd,if_pos rfl]
  rw [hf]
  refine ⟨_,g,aK is77 rfl ((t77_eq _ _ _ _).trans ?_),b3,.inl ⟨by decide,rfl⟩⟩
  unfold t77
  simp -implicitDefEqProofs only [b1,ae,ax,Nat.zero_add,aj,l1]
 |false=>
  rw [hd] at l1
  by_cases c1:i<0
  ·have hf:S.fault i=2:=by unfold Rf.fault;rw [hd,if_neg (by decide),if_pos (.inl c1)]
   rw [hf]
   refine ⟨_,g,aK is77 rfl ((t77_eq _ _ _ _).trans ?_),b3,.inl ⟨by decide,rfl⟩⟩
   unfold t77
   simp -implicitDefEqProofs only [b1,ae,ax,Nat.zero_add,aj,l1,bB,decide_eq_true c1,az,sf,aE,if_true]
  obtain ⟨k,rfl⟩ : ∃ k:Nat,i=k:=⟨i.toNat,by omega⟩
  obtain ⟨g1,e51,o51⟩:=r51 (x'.bS b3) hl
  by_cases c2:(k:Int)≥((S.aU.length/128:Nat):Int)
  ·have hf:S.fault (k:Int)=2:=by unfold Rf.fault Rf.n;rw [hd,if_neg (by decide),if_pos (.inr c2)]
   rw [hf]
   refine ⟨_,g1,aK is77 rfl ((t77_eq _ _ _ _).trans ?_),b3.trans o51,.inl ⟨by decide,rfl⟩⟩
   unfold t77
   simp -implicitDefEqProofs only [b1,ae,ax,Nat.zero_add,aj,l1,bB,decide_eq_false c1,az,beq_self_eq_true,ay,hld,e51,c9,decide_eq_true c2,Bool.false_eq_true,if_false]
  ·have hf:S.fault (k:Int)=0:=by unfold Rf.fault Rf.n;rw [hd,if_neg (by decide),if_neg (by omega)]
   rw [hf]
   have b21:=Old.get o51 b2
   have hld1:=dD b21 rfl (aR _ _ _ _)
   obtain ⟨w,g2,e104,ow,o104⟩:=r104 (x'.bS (b3.trans o51)) hl (i:=k) (by omega)
   have hn:=(b3.trans o51).next
   refine ⟨w,g2,aK is77 rfl ((t77_eq _ _ _ _).trans ?_),(b3.trans o51).trans o104,.inr ⟨rfl,?_⟩⟩
   ·unfold t77
    simp -implicitDefEqProofs only [b1,ae,ax,Nat.zero_add,aj,l1,bB,decide_eq_false c1,az,beq_self_eq_true,ay,hld,e51,c9,decide_eq_false c2,Bool.false_eq_true,if_false,hld1,e104]
   ·obtain ⟨⟨z1,z2,z3,z4|⟨bb,ss,z4,z5,z6⟩⟩,z7⟩:=ow
    ·exact ⟨⟨z1,z2,z3,.inl z4⟩,z7⟩
    ·exact ⟨⟨z1,z2,z3,.inr ⟨bb,ss,z4,by omega,z6⟩⟩,z7⟩
end
end Go.Proofs.Ytcmfgmhadeeieaa

namespace Go.Proofs.Ytcmfgmhadeeieaa
open Go Go.Abs
theorem splice_snoc {M b:List Nat} {off j:Nat} (h:off+j<M.length) (hj:j<b.length):(cJ M off (b.take j)).set (off+j) (b.getD j 0)=cJ M off (b.take (j+1)):=by
 have l1:(b.take j).length=j:=by rw [List.length_take];omega
 have l2:(b.take (j+1)).length=j+1:=by rw [List.length_take];omega
 have hb:b.getD j 0=b[j]:=by rw [List.getD_eq_getElem?_getD,List.getElem?_eq_getElem hj];rfl
 apply List.ext_getElem?
 intro q
 rw [ey (by omega)]
 by_cases hq:q=off+j
 ·subst hq
  rw [List.getElem?_set_self (by rw [fl (by omega)];omega),if_pos (by omega),Nat.add_sub_cancel_left,List.getElem?_take,if_pos (by omega),List.getElem?_eq_getElem hj,hb]
 ·rw [List.getElem?_set_ne (by omega),ey (by omega)]
  by_cases h2:off≤q∧q<off+(b.take j).length
  ·rw [if_pos h2,if_pos (by omega),List.getElem?_take,List.getElem?_take,if_pos (by omega),if_pos (by omega)]
  ·rw [if_neg h2,if_neg (by omega)]
theorem byte_at {h:af} {a:Option Addr} {n c i:Nat} {l:List Nat} (e:av a n h=some l) (hi:i<n) : ∃ b p,a.map (·.block)=some b∧bV 1 (.slice a n c) (ao i)=some (ptr b p)∧aV (ptr b p) h=some (u8 (l.getD i 0),h):=by
 obtain ⟨h1,h2,h3⟩:=aB e
 obtain ⟨b,off,s,k,rfl,hk,hlen,hc⟩:=h3 (by omega)
 refine ⟨b,off+i,rfl,?_,aJ hk (hc i hi) rfl⟩
 unfold bV
 simp only [ao]
 rw [if_pos (by omega),Int.toNat_natCast,Nat.mul_one]
theorem is99:ch Try.prog 99 Try.f99:=⟨by kernel_rfl,by kernel_rfl,by kernel_rfl,by kernel_rfl⟩
theorem is70:ch Try.prog 70 Try.f70:=⟨by kernel_rfl,by kernel_rfl,by kernel_rfl,by kernel_rfl⟩
theorem is83:ch Try.prog 83 Try.f83:=⟨by kernel_rfl,by kernel_rfl,by kernel_rfl,by kernel_rfl⟩
def Rf.put (S:Rf) (i:Nat) (b:List Nat):Rf:={ S with aU:=cJ S.aU (128*i) b }
theorem mul128 (i:Nat) (h:i≤1000000):bin Try.prog .mul 3 (.int .i64 128) (ao i)=some (ao (128*i)):=mul3 (a:=128) (by omega)
theorem put_loop (X:Nat→Value) (g0:af) {B L i n nb cb:Nat} {sp:Option Nat} {M bl:List Nat} {ab:Option Addr} (hM:M.length=L) (gB:g0.get B=some (M.map u8)) (h0:g0.n0≤B) (hb:av ab nb g0=some bl) (hab : ∀ y,ab=some y→0<nb→y.block≠B) (hn:n≤bl.length) (hfit:128*i+n≤L) (hL:L≤1000000)
  (x9:X 9 = .slice (some ⟨B,0,sp⟩) L L) (x1:X 1=ao i) (x2:X 2 = .slice ab nb cb) (x3:X 3=ao n) (x10:X 10=ao 0) :
  Fin 33 (fun ex y g=>ex = .exit 0∧y 9=X 9∧y 4=X 4∧y 8=X 8∧g.get B=some ((cJ M (128*i) (bl.take n)).map u8)∧Kept g0 g (fun c=>c=B)) (iter (aL Try.prog CD (partOf Try.f99 [1,1,0,1,0,0])) rounds (aZ 33 X) g0):=by
 have hnb:=(aB hb).1
 refine ct (t99l99_11010_eq CD) (Inv:=fun k y g => ∃ j,j+k=n∧y 10=ao j∧y 9=X 9∧y 4=X 4∧y 8=X 8∧y 1=X 1∧y 2=X 2∧y 3=X 3∧g.get B=some ((cJ M (128*i) (bl.take j)).map u8)∧Kept g0 g (fun c=>c=B)) ?_ n (by have:rounds=18446744073709551616:=rfl;omega)
  ⟨0,Nat.zero_add _,x10,rfl,rfl,rfl,rfl,rfl,rfl,by rw [gB,List.take_zero];simp [cJ],Kept.refl _ _⟩
 rintro k y g ⟨j,hjk,bH,y9,y4,y8,y1,y2,y3,gg,kk⟩
 unfold t99l99_11010
 simp -implicitDefEqProofs only [bH,y3,x3,ae,gH,aj]
 by_cases hj:j<n
 ·have hbg:=kk.bytes hb (fun y hy hn hB=>hab y hy hn hB)
  obtain ⟨b,p,_,i1,i2⟩:=byte_at (c:=cb) hbg (i:=j) (by omega)
  have hix:bV 1 (.slice (some ⟨B,0,sp⟩) L L) (ao (128*i+j))=some (ptr B (128*i+j)):=by
   unfold bV
   simp only [ao]
   rw [if_pos (by omega),Int.toNat_natCast,Nat.mul_one,Nat.zero_add]
  have hlen:((cJ M (128*i) (bl.take j)).map u8).length=L:=by rw [List.length_map,fl (by rw [List.length_take];omega),hM]
  have hst:=dm (v:=u8 (bl.getD j 0)) gg (show 128*i+j<_ by rw [hlen];omega) (by rw [kk.n0];exact h0) rfl rfl
  rw [←List.map_set,splice_snoc (by omega) (by omega)] at hst
  simp -implicitDefEqProofs only [decide_eq_true hj,ae,y9,x9,y1,x1,mul128 i (by omega),aj,gW (show 128*i+j≤9223372036854775807 by omega),y2,x2,i1,i2,hix,hst,dJ (show j+1≤9223372036854775807 by omega)]
  refine c8.next (k-1) (by omega) ⟨j+1,by omega,rfl,y9.trans x9,y4,y8,y1.trans x1,y2.trans x2,y3.trans x3,af.a9 (by rw [kk.n0];exact h0) gg _,kk.trans (Kept.set (by rw [kk.n0];exact h0) gg (.inr rfl))⟩
 ·have:j=n:=by omega
  subst this
  simp -implicitDefEqProofs only [decide_eq_false hj]
  exact c8.out 0 ⟨rfl,y9,y4,y8,gg,kk⟩
theorem r99 {h:af} {F:Nat→Prop} {v:Value} {S:Rf} (x:bT h F v S) (hl:S.aU.length≤1000000) (hp:0<S.aU.length) {i n nb cb:Nat} {ab:Option Addr} {bl:List Nat} (hb:av ab nb h=some bl) (hn:n≤bl.length) (hfit:128*i+n≤S.aU.length) :
  ∃ v' h',CD 99 [v,ao i,.slice ab nb cb,ao n] h=some (v',h')∧bT h' (fun c=>c<h.next) v' (S.put i (bl.take n))∧Old h h':=by
 obtain ⟨a,c,g,rfl,b1,_,_,b4,b5,b6,b7,b8,b9,s1,s2,s3⟩:=cZ x
 have b5:=newC6 b5
 have hn0:=h.aF
 generalize g.alloc bC=q0 at *
 have oA:Old q0 (q0.alloc []):=Kept.alloc _ _ _
 have hbs:dY 1 (.int .u8 0) 0 [] q0=some (.slice (some ⟨q0.next,0,none⟩) 0 0,q0.alloc []):=rfl
 have nA:(q0.alloc []).next=q0.next+1:=af.aW ..
 have own0:cY (q0.alloc []) q0.next (.slice (some ⟨q0.next,0,none⟩) 0 0) []:=⟨cl.empty _ (Nat.le_refl _),by simp⟩
 have gA:=af.cM b8 []
 have zA:=af.cM b6 []
 have l0:aV (ptr h.next 0) (q0.alloc [])=some (.slice a S.aU.length c,q0.alloc []):=aJ gA rfl
 have oh:=b7.trans oA
 generalize q0.alloc []=q1 at *
 obtain ⟨w,q2,e1,ow,k1,_⟩:=dK own0 (by rw [oh.n0];omega) (by omega) (Old.bytes oh s1) (c:=c) (by simp;omega)
 rw [List.nil_append] at ow
 have o2:Old h q2:=oh.bM k1 (fun d hd hB=>by
  have:dX (.slice (some ⟨q0.next,0,none⟩) 0 0)=some q0.next:=rfl
  rw [this] at hB
  cases hB
  omega)
 have g2:q2.get h.next=some (S.cells (.slice a S.aU.length c)):=k1.cB gA (fun hB=>by
  have:dX (.slice (some ⟨q0.next,0,none⟩) 0 0)=some q0.next:=rfl
  rw [this] at hB
  have:=Option.some.inj hB
  omega)
 have z2:q2.get (h.next+1)=some bC:=k1.cB zA (fun hB=>by
  have:dX (.slice (some ⟨q0.next,0,none⟩) 0 0)=some q0.next:=rfl
  rw [this] at hB
  have:=Option.some.inj hB
  omega)
 obtain ⟨⟨_,_,_,⟨_,z⟩|⟨B,sp,rfl,hB,⟨_,z⟩|⟨rfl,gB⟩⟩⟩,_⟩:=ow
 ·omega
 ·omega
 have hq0:q0.next=h.next+2:=b9
 have run : ∀ Z:Nat→Value,Z 9 = .slice (some ⟨B,0,some 1⟩) S.aU.length S.aU.length→Z 1=ao i→Z 2 = .slice ab nb cb→Z 3=ao n→Z 10=ao 0→Z 4=ptr h.next 0→Z 8=ptr (h.next+1) 0 →
   ∃ v' h',dI (iter (aL Try.prog CD (partOf Try.f99 [1,1,0,1,0,0])) rounds (aZ 33 Z) q2) (al Try.prog Try.f99.results.toList) (b99_4 CD)=some (v',h')∧bT h' (fun c=>c<h.next) v' (S.put i (bl.take n))∧Old h h':=by
  intro Z z9 z1 zz2 z3 z10 z4 z8
  refine cy (Q:=fun o:Out => ∃ v' h',o=some (v',h')∧bT h' (fun c=>c<h.next) v' (S.put i (bl.take n))∧Old h h')
   (put_loop Z q2 rfl gB (by rw [o2.n0];omega) (Old.bytes o2 hb) (fun y hy hpos=>by
    subst hy
    obtain ⟨b,off,s,e,hlt⟩:=er hb hpos
    cases e
    show b≠B
    omega) hn hfit hl z9 z1 zz2 z3 z10) ?_
  rintro ex z q3 ⟨rfl,y9,y4,y8,gB3,k3⟩
  have g3:=k3.cB g2 (by omega)
  have zz3:=k3.cB z2 (by omega)
  have o3:Old h q3:=o2.bM k3 (fun c hc e=>by omega)
  obtain ⟨e2,g4,k4⟩:=hZ (i:=0) (v := .slice (some ⟨B,0,some 1⟩) S.aU.length S.aU.length) (k':=(S.put i (bl.take n)).cells (.slice (some ⟨B,0,some 1⟩) S.aU.length S.aU.length)) g3 (by rw [o3.n0];omega) rfl (by decide) rfl rfl rfl
  generalize q3.set h.next ((S.put i (bl.take n)).cells (.slice (some ⟨B,0,some 1⟩) S.aU.length S.aU.length))=q4 at *
  have zz4:=k4.cB zz3 (by omega)
  have gB4:=k4.cB gB3 (by omega)
  have o4:Old h q4:=o3.bM k4 (fun c hc e=>by omega)
  obtain ⟨f1,f2,f3,f4⟩:=rf_end (h0:=h) g4 zz4 (by rw [o4.n0];omega) rfl rfl (db _ _ _ _) (aR _ _ _ _) o4 (by omega)
  have gB5:(q4.set (h.next+1) ((S.put i (bl.take n)).cells (.slice (some ⟨B,0,some 1⟩) S.aU.length S.aU.length))).get B=some ((cJ S.aU (128*i) (bl.take n)).map u8):=(af.bm (by rw [o4.n0];omega) (q4.aS zz4) _ (by omega)).trans gB4
  have hlen:(cJ S.aU (128*i) (bl.take n)).length=S.aU.length:=fl (by rw [List.length_take];omega)
  have hbyte : ∀ x∈cJ S.aU (128*i) (bl.take n),x<256:=spliceN_byte (aB s1).2.1 (fun x hx=>(aB hb).2.1 x (List.mem_of_mem_take hx))
  simp -implicitDefEqProofs only [bG,b99_4,if_true,t99k99_2_eq]
  unfold t99k99_2
  have y9':=y9.trans z9
  have y4':=y4.trans z4
  have y8':=y8.trans z8
  simp -implicitDefEqProofs only [y9',y4',y8',ae,ax,Nat.zero_add,aj,e2,f1,f2]
  refine ⟨_,_,res_rf1 (k:=8) results99 (by decide) _ (by simp only [aQ,aY,Nat.reduceEqDiff,if_false,y8'];exact f3),⟨some ⟨B,0,some 1⟩,S.aU.length,by rw [show (S.put i (bl.take n)).aU.length=S.aU.length from hlen],?_,?_,?_⟩,f4⟩
  ·rw [show (S.put i (bl.take n)).aU.length=S.aU.length from hlen,cH (l:=cJ S.aU (128*i) (bl.take n)) gB5 (by omega) hbyte,List.drop_zero,List.take_of_length_le (by omega)]
   rfl
  ·rw [show (S.put i (bl.take n)).aU.length=S.aU.length from hlen]
   unfold cU
   simp
  ·intro y hy _ hlt
   cases hy
   have:B<h.next:=hlt
   omega
 have key : ∃ v' h',t99 CD (.agg (S.cells (.slice a S.aU.length c)).toArray) (ao i) (.slice ab nb cb) (ao n) h=some (v',h')∧bT h' (fun c=>c<h.next) v' (S.put i (bl.take n))∧Old h h':=by
  unfold t99
  simp -implicitDefEqProofs only [b1,ae,b5,hbs,ax,Nat.add_zero,aj,l0,e1]
  exact run _ rfl rfl rfl rfl rfl rfl rfl
 obtain ⟨v',h',e,f⟩:=key
 exact ⟨v',h',aK is99 rfl ((t99_eq _ _ _ _ _ _).trans e),f⟩
def Rf.write (S:Rf) (i:Int) (b:List Nat):Int×Rf:=
 if S.fault i=0 then
  if b.length=128 then
   if S.bX then
    if S.after=0 then (9,(S.put i.toNat (b.take S.aG.toNat)).off)
    else (0,{ S with after:=IntKind.wrap .i64 (S.after-1) }.put i.toNat b)
   else (0,S.put i.toNat b)
  else (10,S)
 else (S.fault i,S)
theorem Rf.fy {S:Rf} {i:Int} (h:S.fault i=0):S.down=false∧0≤i∧i<(S.n:Int):=by
 unfold Rf.fault at h
 split at h
 ·cases h
 ·rename_i hd
  split at h
  ·cases h
  ·exact ⟨by simpa using hd,by omega,by omega⟩
set_option maxRecDepth 100000 in
theorem r70 {h:af} {F:Nat→Prop} {v:Value} {S:Rf} (x:bT h F v S) (hF : ∀ b,F b→b<h.next) (hl:S.aU.length≤1000000) (hk:0≤S.aG∧S.aG≤128) (i:Int) {nb cb:Nat} {ab:Option Addr} {bl:List Nat} (hb:av ab nb h=some bl) :
  ∃ v' h',CD 70 [v,.int .i64 i,.slice ab nb cb] h=some (.tuple #[v',.int .i64 (S.write i bl).1],h')∧bT h' F v' (S.write i bl).2∧Old h h':=by
 have hnb:=(aB hb).1
 have x':=x
 obtain ⟨a,c,g,rfl,b1,_,_,b4,b5,b6,b7,b8,b9,s1,s2,s3⟩:=cZ x
 have b5:=newC6 b5
 have hn0:=h.aF
 generalize g.alloc bC=q0 at *
 have n0:q0.n0=h.n0:=b7.n0
 have l1:aV (ptr h.next 1) q0=some (.bool S.down,q0):=aJ b8 rfl
 obtain ⟨f1,f2,f3,f4⟩:=rf_end (h0:=h) b8 b6 (by omega) rfl rfl (db _ _ _ _) (aR _ _ _ _) b7 (by omega)
 have hll:cK (.slice ab nb cb)=some (ao nb):=rfl
 cases hd:S.down with
 |true=>
  rw [hd] at l1
  have hf:S.fault i=9:=by unfold Rf.fault;rw [hd,if_pos rfl]
  have ha:S.write i bl=(9,S):=by unfold Rf.write;rw [hf,if_neg (by decide)]
  rw [ha]
  refine ⟨_,_,aK is70 rfl ((t70_eq _ _ _ _ _).trans ?_),bT.put s1 s2 s3 f4 rfl,f4⟩
  unfold t70
  simp -implicitDefEqProofs only [b1,ae,b5,ax,Nat.zero_add,aj,l1,f1,f2]
  exact cQ (rs:=Try.f70.results.toList) (n:=48) (k:=6) (t:=7) results70 (by decide) (by decide) _ f3
 |false=>
  rw [hd] at l1
  by_cases c1:i<0
  ·have hf:S.fault i=2:=by unfold Rf.fault;rw [hd,if_neg (by decide),if_pos (.inl c1)]
   have ha:S.write i bl=(2,S):=by unfold Rf.write;rw [hf,if_neg (by decide)]
   rw [ha]
   refine ⟨_,_,aK is70 rfl ((t70_eq _ _ _ _ _).trans ?_),bT.put s1 s2 s3 f4 rfl,f4⟩
   unfold t70
   simp -implicitDefEqProofs only [b1,ae,b5,ax,Nat.zero_add,aj,l1,bB,decide_eq_true c1,az,sf,aE,if_true,f1,f2]
   exact cQ (rs:=Try.f70.results.toList) (n:=48) (k:=6) (t:=7) results70 (by decide) (by decide) _ f3
  obtain ⟨k,rfl⟩ : ∃ k:Nat,i=k:=⟨i.toNat,by omega⟩
  obtain ⟨q1,e51,o51⟩:=r51 (x'.bS b7) hl
  have g1:=Old.get o51 b8
  have z1:=Old.get o51 b6
  have o1:=b7.trans o51
  obtain ⟨p1,p2,p3,p4⟩:=rf_end (h0:=h) g1 z1 (by rw [o1.n0];omega) rfl rfl (db _ _ _ _) (aR _ _ _ _) o1 (by omega)
  by_cases c2:(k:Int)≥((S.aU.length/128:Nat):Int)
  ·have hf:S.fault (k:Int)=2:=by unfold Rf.fault Rf.n;rw [hd,if_neg (by decide),if_pos (.inr c2)]
   have ha:S.write (k:Int) bl=(2,S):=by unfold Rf.write;rw [hf,if_neg (by decide)]
   rw [ha]
   refine ⟨_,_,aK is70 rfl ((t70_eq _ _ _ _ _).trans ?_),bT.put s1 s2 s3 p4 rfl,p4⟩
   unfold t70
   simp -implicitDefEqProofs only [b1,ae,b5,ax,Nat.zero_add,aj,l1,bB,decide_eq_false c1,az,beq_self_eq_true,ay,f1,e51,c9,decide_eq_true c2,Bool.false_eq_true,if_false,p1,p2]
   exact cQ (rs:=Try.f70.results.toList) (n:=48) (k:=6) (t:=7) results70 (by decide) (by decide) _ p3
  have hf:S.fault (k:Int)=0:=by unfold Rf.fault Rf.n;rw [hd,if_neg (by decide),if_neg (by omega)]
  by_cases c3:nb=128
  ·subst c3
   have hz:bin Try.prog .neq 3 (ao 128) (.int .i64 128)=some (.bool false):=by kernel_rfl
   have l2:aV (ptr h.next 2) q1=some (.bool S.bX,q1):=aJ g1 rfl
   have l3:aV (ptr h.next 3) q1=some (.int .i64 S.after,q1):=aJ g1 rfl
   have l4:aV (ptr h.next 4) q1=some (.int .i64 S.aG,q1):=aJ g1 rfl
   have hb1:=Old.bytes o1 hb
   have fin : ∀ {T:Rf} {vv:Value} {q2:af},bT q2 (fun c=>c<q1.next) vv T→Old q1 q2 → ∃ h',bK 6 (ptr (h.next+1) 0) vv q2=some (undef,h')∧bD 6 (ptr (h.next+1) 0) h'=some (vv,h')∧bT h' F vv T∧Old h h':=by
    intro T vv q2 r o2
    have r':=r
    obtain ⟨a2,c2,rfl,t1,t2,t3⟩:=r
    have zz:=Old.get o2 z1
    have oo:=o1.trans o2
    have hn2:q2.n0≤h.next+1:=by rw [oo.n0];omega
    have kk:Kept q2 (q2.set (h.next+1) (T.cells (.slice a2 T.aU.length c2))) (fun c=>c=h.next+1):=Kept.set hn2 zz (.inr rfl)
    have hn1:=o51.next
    refine ⟨_,rf_st zz hn2 rfl rfl (db _ _ _ _),dD (af.a9 hn2 zz _) rfl (aR _ _ _ _),?_,oo.bM kk (fun c hc e=>by omega)⟩
    refine (r'.aG kk (fun b _ hbb => ?_)).mono (fun b hbF => ?_)
    ·show b<q1.next
     have:b=h.next+1:=hbb
     omega
    ·show b<q1.next
     have:=hF b hbF
     have:=o1.next
     omega
   cases har:S.bX with
   |true=>
    rw [har] at l2
    by_cases c4:S.after=0
    ·have ha:S.write (k:Int) bl=(9,(S.put k (bl.take S.aG.toNat)).off):=by unfold Rf.write;rw [hf,if_pos rfl,if_pos hnb,har,if_pos rfl,if_pos c4,Int.toNat_natCast]
     rw [ha]
     have hkk:(.int .i64 S.aG:Value)=ao S.aG.toNat:=by show Value.int .i64 S.aG = .int .i64 ((S.aG.toNat:Nat):Int);rw [Int.toNat_of_nonneg hk.1]
     obtain ⟨v2,q2,e99,r2,o2⟩:=r99 (cb:=cb) (x'.bS o1) hl (by omega) (i:=k) (n:=S.aG.toNat) hb1 (by omega) (by omega)
     obtain ⟨v3,q3,e79,r3,o3⟩:=r79 r2
     obtain ⟨h',st1,st2,st3,st4⟩:=fin (q2:=q3) r3 (o2.trans o3)
     have hz0:bin Try.prog .eql 3 (.int .i64 S.after) (.int .i64 0)=some (.bool true):=by rw [c4];kernel_rfl
     refine ⟨_,h',aK is70 rfl ((t70_eq _ _ _ _ _).trans ?_),st3,st4⟩
     unfold t70
     rw [hkk] at l4
     simp -implicitDefEqProofs only [b1,ae,b5,ax,Nat.zero_add,aj,l1,bB,decide_eq_false c1,az,beq_self_eq_true,ay,f1,e51,c9,decide_eq_false c2,Bool.false_eq_true,if_false,hll,hz,l2,l3,hz0,if_true,p1,l4,e99,e79,st1]
     exact cQ (rs:=Try.f70.results.toList) (n:=48) (k:=6) (t:=7) results70 (by decide) (by decide) _ st2
    ·have ha:S.write (k:Int) bl=(0,{ S with after:=IntKind.wrap .i64 (S.after-1) }.put k bl):=by unfold Rf.write;rw [hf,if_pos rfl,if_pos hnb,har,if_pos rfl,if_neg c4,Int.toNat_natCast]
     rw [ha]
     obtain ⟨es,gs,ks⟩:=hZ (i:=3) (v := .int .i64 (IntKind.wrap .i64 (S.after-1))) (k':=({ S with after:=IntKind.wrap .i64 (S.after-1) }:Rf).cells (.slice a S.aU.length c)) g1 (by rw [o1.n0];omega) rfl (by decide) rfl rfl rfl
     have zs:=ks.cB z1 (by omega)
     have os:Old h _:=o1.bM ks (fun c hc e=>by omega)
     have hbs:=Old.bytes os hb
     have rs:bT _ F (.agg (({ S with after:=IntKind.wrap .i64 (S.after-1) }:Rf).cells (.slice a S.aU.length c)).toArray) { S with after:=IntKind.wrap .i64 (S.after-1) }:=bT.put s1 s2 s3 os rfl
     have hns:=ks.next
     generalize q1.set h.next (({ S with after:=IntKind.wrap .i64 (S.after-1) }:Rf).cells (.slice a S.aU.length c))=qs at *
     have lds:=dD gs rfl (aR _ _ _ _)
     obtain ⟨v2,q2,e99,r2,o2⟩:=r99 (cb:=cb) rs hl (by show 0<S.aU.length;omega) (i:=k) (n:=128) hbs (by omega) (by show _≤S.aU.length;omega)
     have e99':CD 99 [_,ao k,_,.int .i64 128] _=_:=e99
     rw [List.take_of_length_le (by omega)] at r2
     have zz:=Old.get o2 zs
     have oo:=os.trans o2
     have hn2:q2.n0≤h.next+1:=by rw [oo.n0];omega
     have r2':=r2
     obtain ⟨a2,c2',rfl,t1,t2,t3⟩:=r2
     have kk:Kept q2 (q2.set (h.next+1) (({ S with after:=IntKind.wrap .i64 (S.after-1) }.put k bl:Rf).cells (.slice a2 ({ S with after:=IntKind.wrap .i64 (S.after-1) }.put k bl:Rf).aU.length c2'))) (fun c=>c=h.next+1):=Kept.set hn2 zz (.inr rfl)
     have st1:=rf_st (k':=({ S with after:=IntKind.wrap .i64 (S.after-1) }.put k bl:Rf).cells (.slice a2 ({ S with after:=IntKind.wrap .i64 (S.after-1) }.put k bl:Rf).aU.length c2')) zz hn2 rfl rfl (db _ _ _ _)
     have st2:=dD (af.a9 hn2 zz (({ S with after:=IntKind.wrap .i64 (S.after-1) }.put k bl:Rf).cells (.slice a2 ({ S with after:=IntKind.wrap .i64 (S.after-1) }.put k bl:Rf).aU.length c2'))) rfl (aR _ _ _ _)
     have hn1:=o51.next
     have hbz:bin Try.prog .eql 3 (.int .i64 S.after) (.int .i64 0)=some (.bool false):=by rw [bZ];exact congrArg (fun q=>some (Value.bool q)) (beq_eq_false_iff_ne.2 c4)
     refine ⟨_,_,aK is70 rfl ((t70_eq _ _ _ _ _).trans ?_),(r2'.aG kk (fun b _ hbb => ?_)).mono (fun b hbF => ?_),oo.bM kk (fun c hc e=>by omega)⟩
     ·unfold t70
      simp -implicitDefEqProofs only [b1,ae,b5,ax,Nat.zero_add,aj,l1,bB,decide_eq_false c1,az,beq_self_eq_true,ay,f1,e51,c9,decide_eq_false c2,Bool.false_eq_true,if_false,hll,hz,l2,l3,hbz,if_true,gU,es,lds,e99',st1]
      exact cQ (rs:=Try.f70.results.toList) (n:=48) (k:=6) (t:=7) results70 (by decide) (by decide) _ st2
     ·show b<qs.next
      have:b=h.next+1:=hbb
      omega
     ·show b<qs.next
      have:=hF b hbF
      have:=o1.next
      omega
   |false=>
    rw [har] at l2
    have ha:S.write (k:Int) bl=(0,S.put k bl):=by unfold Rf.write;rw [hf,if_pos rfl,if_pos hnb,har,if_neg (by decide),Int.toNat_natCast]
    rw [ha]
    obtain ⟨v2,q2,e99,r2,o2⟩:=r99 (cb:=cb) (x'.bS o1) hl (by omega) (i:=k) (n:=128) hb1 (by omega) (by omega)
    have e99':CD 99 [_,ao k,_,.int .i64 128] _=_:=e99
    rw [List.take_of_length_le (by omega)] at r2
    obtain ⟨h',st1,st2,st3,st4⟩:=fin r2 o2
    refine ⟨_,h',aK is70 rfl ((t70_eq _ _ _ _ _).trans ?_),st3,st4⟩
    unfold t70
    simp -implicitDefEqProofs only [b1,ae,b5,ax,Nat.zero_add,aj,l1,bB,decide_eq_false c1,az,beq_self_eq_true,ay,f1,e51,c9,decide_eq_false c2,Bool.false_eq_true,if_false,hll,hz,l2,fs,aE,p1,e99',st1]
    exact cQ (rs:=Try.f70.results.toList) (n:=48) (k:=6) (t:=7) results70 (by decide) (by decide) _ st2
  ·have hz:bin Try.prog .neq 3 (ao nb) (.int .i64 128)=some (.bool true):=by
    rw [bin_neq]
    exact congrArg (fun q=>some (Value.bool q)) (bne_iff_ne.2 (by omega))
   have ha:S.write (k:Int) bl=(10,S):=by unfold Rf.write;rw [hf,if_pos rfl,if_neg (by omega)]
   rw [ha]
   refine ⟨_,_,aK is70 rfl ((t70_eq _ _ _ _ _).trans ?_),bT.put s1 s2 s3 p4 rfl,p4⟩
   unfold t70
   simp -implicitDefEqProofs only [b1,ae,b5,ax,Nat.zero_add,aj,l1,bB,decide_eq_false c1,az,beq_self_eq_true,ay,f1,e51,c9,decide_eq_false c2,Bool.false_eq_true,if_false,hll,hz,p1,p2]
   exact cQ (rs:=Try.f70.results.toList) (n:=48) (k:=6) (t:=7) results70 (by decide) (by decide) _ p3
end Go.Proofs.Ytcmfgmhadeeieaa

namespace Go.Proofs.Ytcmfgmhadeeieaa
open Go Go.Abs
def ed (aU:List Nat) (i:Nat):List Nat:=(aU.drop (128*i)).take 128
theorem splice_blk {aU:List Nat} {i p v:Nat} (h:128*i+128≤aU.length) (hp:p<128):cJ aU (128*i) ((ed aU i).set p v)=aU.set (i*128+p) v:=by
 have hb:((ed aU i).set p v).length=128:=by
  rw [List.length_set]
  unfold ed
  rw [List.length_take,List.length_drop]
  omega
 apply List.ext_getElem?
 intro q
 rw [ey (by omega)]
 by_cases hq:128*i≤q∧q<128*i+((ed aU i).set p v).length
 ·rw [if_pos hq]
  by_cases hqp:q=i*128+p
  ·subst hqp
   rw [List.getElem?_set_self (by omega),show i*128+p-128*i=p by omega,List.getElem?_set_self (by rw [List.length_set] at hb;omega)]
  ·rw [List.getElem?_set_ne (by omega),List.getElem?_set_ne (by omega)]
   unfold ed
   rw [List.getElem?_take,if_pos (by omega),List.getElem?_drop,show 128*i+(q-128*i)=q by omega]
 ·rw [if_neg hq,List.getElem?_set_ne (by omega)]
def Rf.rot (S:Rf) (i at_:Int) (m:Nat):Int×Rf:=
 if i<0∨(S.n:Int)≤i∨at_<0∨127<at_ then (2,S) else (0,S.put i.toNat ((ed S.aU i.toNat).set at_.toNat ((ed S.aU i.toNat).getD at_.toNat 0 ^^^ m)))
set_option maxRecDepth 100000 in
theorem r83 {h:af} {F:Nat→Prop} {v:Value} {S:Rf} (x:bT h F v S) (hF : ∀ b,F b→b<h.next) (hl:S.aU.length≤1000000) (i at_:Int) {m:Nat} (hm:m<256) :
  ∃ v' h',CD 83 [v,.int .i64 i,.int .i64 at_,u8 m] h=some (.tuple #[v',.int .i64 (S.rot i at_ m).1],h')∧bT h' F v' (S.rot i at_ m).2∧Old h h':=by
 have x':=x
 obtain ⟨a,c,g,rfl,b1,_,_,b4,b5,b6,b7,b8,b9,s1,s2,s3⟩:=cZ x
 have b5:=newC6 b5
 have hn0:=h.aF
 generalize g.alloc bC=q0 at *
 have n0:q0.n0=h.n0:=b7.n0
 obtain ⟨f1,f2,f3,f4⟩:=rf_end (h0:=h) b8 b6 (by omega) rfl rfl (db _ _ _ _) (aR _ _ _ _) b7 (by omega)
 by_cases c1:i<0
 ·have ha:S.rot i at_ m=(2,S):=by unfold Rf.rot;rw [if_pos (.inl c1)]
  rw [ha]
  refine ⟨_,_,aK is83 rfl ((t83_eq _ _ _ _ _ _).trans ?_),bT.put s1 s2 s3 f4 rfl,f4⟩
  unfold t83
  simp -implicitDefEqProofs only [b1,ae,b5,ax,Nat.zero_add,aj,bB,decide_eq_true c1,az,sf,aE,if_true,f1,f2]
  exact cQ (rs:=Try.f83.results.toList) (n:=42) (k:=8) (t:=9) results83 (by decide) (by decide) _ f3
 obtain ⟨k,rfl⟩ : ∃ k:Nat,i=k:=⟨i.toNat,by omega⟩
 obtain ⟨q1,e51,o51⟩:=r51 (x'.bS b7) hl
 have g1:=Old.get o51 b8
 have z1:=Old.get o51 b6
 have o1:=b7.trans o51
 obtain ⟨p1,p2,p3,p4⟩:=rf_end (h0:=h) g1 z1 (by rw [o1.n0];omega) rfl rfl (db _ _ _ _) (aR _ _ _ _) o1 (by omega)
 by_cases c2:(k:Int)≥((S.aU.length/128:Nat):Int)
 ·have ha:S.rot (k:Int) at_ m=(2,S):=by unfold Rf.rot Rf.n;rw [if_pos (.inr (.inl c2))]
  rw [ha]
  refine ⟨_,_,aK is83 rfl ((t83_eq _ _ _ _ _ _).trans ?_),bT.put s1 s2 s3 p4 rfl,p4⟩
  unfold t83
  simp -implicitDefEqProofs only [b1,ae,b5,ax,Nat.zero_add,aj,bB,decide_eq_false c1,az,beq_self_eq_true,ay,f1,e51,c9,decide_eq_true c2,Bool.false_eq_true,if_false,sf,aE,if_true,p1,p2]
  exact cQ (rs:=Try.f83.results.toList) (n:=42) (k:=8) (t:=9) results83 (by decide) (by decide) _ p3
 by_cases c3:at_<0
 ·have ha:S.rot (k:Int) at_ m=(2,S):=by unfold Rf.rot;rw [if_pos (.inr (.inr (.inl c3)))]
  rw [ha]
  refine ⟨_,_,aK is83 rfl ((t83_eq _ _ _ _ _ _).trans ?_),bT.put s1 s2 s3 p4 rfl,p4⟩
  unfold t83
  simp -implicitDefEqProofs only [b1,ae,b5,ax,Nat.zero_add,aj,bB,decide_eq_false c1,az,beq_self_eq_true,ay,f1,e51,c9,decide_eq_false c2,decide_eq_true c3,Bool.false_eq_true,if_false,sf,aE,if_true,p1,p2]
  exact cQ (rs:=Try.f83.results.toList) (n:=42) (k:=8) (t:=9) results83 (by decide) (by decide) _ p3
 by_cases c4:at_>127
 ·have ha:S.rot (k:Int) at_ m=(2,S):=by unfold Rf.rot;rw [if_pos (.inr (.inr (.inr c4)))]
  rw [ha]
  refine ⟨_,_,aK is83 rfl ((t83_eq _ _ _ _ _ _).trans ?_),bT.put s1 s2 s3 p4 rfl,p4⟩
  unfold t83
  simp -implicitDefEqProofs only [b1,ae,b5,ax,Nat.zero_add,aj,bB,decide_eq_false c1,az,beq_self_eq_true,ay,f1,e51,c9,decide_eq_false c2,decide_eq_false c3,dB,decide_eq_true c4,Bool.false_eq_true,if_false,p1,p2]
  exact cQ (rs:=Try.f83.results.toList) (n:=42) (k:=8) (t:=9) results83 (by decide) (by decide) _ p3
 obtain ⟨p,rfl⟩ : ∃ p:Nat,at_=p:=⟨at_.toNat,by omega⟩
 have ha:S.rot (k:Int) (p:Int) m=(0,S.put k ((ed S.aU k).set p ((ed S.aU k).getD p 0 ^^^ m))):=by unfold Rf.rot Rf.n;rw [if_neg (by omega)];rfl
 rw [ha]
 have hfit:128*k+128≤S.aU.length:=by omega
 obtain ⟨w,q2,e104,ow,o104⟩:=r104 (x'.bS o1) hl (i:=k) hfit
 have hbl:(ed S.aU k).length=128:=by
  unfold ed
  rw [List.length_take,List.length_drop];omega
 have ow:cY q2 q1.next w (ed S.aU k):=ow
 have hbyte:=ow.byte
 obtain ⟨⟨_,_,_,⟨_,z⟩|⟨B,sp,rfl,hB,⟨_,z⟩|⟨rfl,gB⟩⟩⟩,_⟩:=ow
 ·omega
 ·omega
 have o2:=o1.trans o104
 have g2:=Old.get o104 g1
 have z2:=Old.get o104 z1
 have hq1:=o51.next
 rw [hbl] at e104
 have hix:bV 1 (.slice (some ⟨B,0,some 1⟩) 128 128) (.int .i64 (p:Int))=some (ptr B p):=by
  unfold bV
  simp only
  rw [if_pos (by omega),Int.toNat_natCast,Nat.mul_one,Nat.zero_add]
 have hv:(ed S.aU k).getD p 0<256:=by
  rw [List.getD_eq_getElem?_getD,List.getElem?_eq_getElem (by omega)]
  exact hbyte _ (List.getElem_mem _)
 have hld:aV (ptr B p) q2=some (u8 ((ed S.aU k).getD p 0),q2):=aJ gB (by rw [List.getElem?_map,List.getElem?_eq_getElem (by omega),List.getD_eq_getElem?_getD,List.getElem?_eq_getElem (by omega)];rfl) rfl
 have hx:=fp Try.prog 5 (k := .u8) rfl (a:=(ed S.aU k).getD p 0) (b:=m) hv hm
 have hx2:(ed S.aU k).getD p 0 ^^^ m<256:=Nat.xor_lt_two_pow (n:=8) hv hm
 have hB0:q2.n0≤B:=by rw [o2.n0];omega
 have hst:=dm (v:=u8 ((ed S.aU k).getD p 0 ^^^ m)) gB (show p<_ by rw [List.length_map];omega) hB0 rfl rfl
 rw [←List.map_set] at hst
 have gB3:(q2.set B (((ed S.aU k).set p ((ed S.aU k).getD p 0 ^^^ m)).map u8)).get B=some (((ed S.aU k).set p ((ed S.aU k).getD p 0 ^^^ m)).map u8):=af.a9 hB0 gB _
 have k3:Kept q2 (q2.set B (((ed S.aU k).set p ((ed S.aU k).getD p 0 ^^^ m)).map u8)) (fun c=>c=B):=Kept.set hB0 gB (.inr rfl)
 generalize q2.set B (((ed S.aU k).set p ((ed S.aU k).getD p 0 ^^^ m)).map u8)=q3 at *
 have hl2:((ed S.aU k).set p ((ed S.aU k).getD p 0 ^^^ m)).length=128:=by rw [List.length_set];exact hbl
 have hbyte2 : ∀ x∈(ed S.aU k).set p ((ed S.aU k).getD p 0 ^^^ m),x<256:=by
  intro y hy
  rcases List.mem_or_eq_of_mem_set hy with hy|rfl
  ·exact hbyte y hy
  ·exact hx2
 generalize (ed S.aU k).set p ((ed S.aU k).getD p 0 ^^^ m)=nb at *
 have sb:av (some ⟨B,0,some 1⟩) 128 q3=some nb:=by
  rw [cH (l:=nb) gB3 (by omega) hbyte2,List.drop_zero,List.take_of_length_le (by omega)]
 have o3:Old h q3:=o2.bM k3 (fun c hc e=>by omega)
 have g3:=k3.cB g2 (by omega)
 have z3:=k3.cB z2 (by omega)
 have ld3:=dD g3 rfl (aR _ _ _ _)
 obtain ⟨v2,q4,e99,r4,o4⟩:=r99 (cb:=128) (x'.bS o3) hl (by omega) (i:=k) (n:=128) sb (by omega) hfit
 have e99':CD 99 [_,ao k,_,.int .i64 128] _=_:=e99
 rw [List.take_of_length_le (by omega)] at r4
 have z4:=Old.get o4 z3
 have oo:=o3.trans o4
 have hn2:q4.n0≤h.next+1:=by rw [oo.n0];omega
 have r4':=r4
 obtain ⟨a2,c2',rfl,t1,t2,t3⟩:=r4
 have kk:Kept q4 (q4.set (h.next+1) ((S.put k nb).cells (.slice a2 (S.put k nb).aU.length c2'))) (fun c=>c=h.next+1):=Kept.set hn2 z4 (.inr rfl)
 have st1:=rf_st (k':=(S.put k nb).cells (.slice a2 (S.put k nb).aU.length c2')) z4 hn2 rfl rfl (db _ _ _ _)
 have st2:=dD (af.a9 hn2 z4 ((S.put k nb).cells (.slice a2 (S.put k nb).aU.length c2'))) rfl (aR _ _ _ _)
 have hq3:=k3.next
 have hq2:=o104.next
 refine ⟨_,_,aK is83 rfl ((t83_eq _ _ _ _ _ _).trans ?_),(r4'.aG kk (fun b _ hbb => ?_)).mono (fun b hbF => ?_),oo.bM kk (fun c hc e=>by omega)⟩
 ·unfold t83
  have hcb:((ed S.aU k).length:Nat)=128:=hbl
  simp -implicitDefEqProofs only [b1,ae,b5,ax,Nat.zero_add,aj,bB,decide_eq_false c1,az,beq_self_eq_true,ay,f1,e51,c9,decide_eq_false c2,decide_eq_false c3,dB,decide_eq_false c4,Bool.false_eq_true,if_false,p1,e104,hix,hld,hx,hst,ld3,e99',st1]
  exact cQ (rs:=Try.f83.results.toList) (n:=42) (k:=8) (t:=9) results83 (by decide) (by decide) _ st2
 ·show b<q3.next
  have:b=h.next+1:=hbb
  omega
 ·show b<q3.next
  have:=hF b hbF
  have:=o1.next
  omega
def Dk.wipe (D:Dk):Dk:={ D with aU:=List.replicate D.aU.length 0 }
theorem is81:ch Try.prog 81 Try.f81:=⟨by kernel_rfl,by kernel_rfl,by kernel_rfl,by kernel_rfl⟩
theorem r81 {h:af} {d:Nat} {D:Dk} (x:aX h d D) (hn:1≤D.n) : ∃ h',CD 81 [ptr d 0] h=some (.int .i64 0,h')∧aX h' d D.wipe∧cq d D.bb h h':=by
 have hz:(eT (List.replicate 128 (Value.int .u8 0)) D.n)=(List.replicate (128*D.n) 0).map u8:=zeros128 D.n
 have hc:(Value.agg (List.replicate 128 (Value.int .u8 0)).toArray).cells=(List.replicate 128 (Value.int .u8 0)).toArray:=rfl
 have hsp:cG (D.aU.map u8) 0 ((List.replicate (128*D.n) 0).map u8)=(List.replicate D.aU.length 0).map u8:=by
  rw [spliceN_map]
  unfold cJ
  rw [x.len]
  simp [x.len]
 have hclr:clrR (.agg (List.replicate 128 (Value.int .u8 0)).toArray) 128 (.slice (some ⟨D.bb,0,none⟩) D.n D.n) h=some (undef,h.set D.bb ((List.replicate D.aU.length 0).map u8)):=by
  unfold clrR
  simp only [hc]
  rw [if_neg (by omega),if_pos (by simp [cO,flat]),hz]
  unfold stL
  simp only [x.aU]
  rw [if_pos (by simp only [one_u8,List.length_map,List.length_replicate,x.len,Bool.and_true,Bool.and_eq_true,decide_eq_true_eq];exact ⟨x.bn,by omega⟩),hsp]
  rfl
 refine ⟨h.set D.bb ((List.replicate D.aU.length 0).map u8),aK is81 rfl ((t81_eq _ _ _).trans ?_),?_,(Kept.set (B:=fun c=>c=D.bb) x.bn x.aU (.inr rfl)).mono (fun c _ hc => .inr hc)⟩
 ·unfold t81
  simp -implicitDefEqProofs only [ae,nil27e,aj,aH,ax,Nat.zero_add,x.l0,hclr]
 ·refine ⟨(af.bm x.bn x.blt _ x.ne).trans x.gQ,af.a9 x.bn x.aU _,by show (List.replicate _ _).length=_;rw [List.length_replicate];exact x.len,?_,x.dn,x.bn,x.ne,x.small,x.after,x.aG⟩
  intro y hy
  rw [List.eq_of_mem_replicate hy];decide
structure Eqd (D:Dk) (S:Rf):Prop where
 aU:S.aU=D.aU
 down:S.down=D.down
 bX:S.bX=D.bX
 arm:D.bX=true→S.after=D.after∧S.aG=D.aG
 da:D.down=true→D.bX=false
 bw:S.bw=D.bw
 kp:0≤S.aG∧S.aG≤128
theorem Eqd.n {D:Dk} {S:Rf} (q:Eqd D S) (hl:D.aU.length=128*D.n):S.n=D.n:=by
 unfold Rf.n
 rw [q.aU,hl];omega
theorem Eqd.fault {D:Dk} {S:Rf} (q:Eqd D S) (hl:D.aU.length=128*D.n) (i:Int):S.fault i=D.fault i:=by
 unfold Rf.fault Dk.fault
 rw [q.down,q.n hl]
theorem Eqd.off {D:Dk} {S:Rf} (q:Eqd D S):Eqd D.off S.off:=by
 by_cases hd:D.down=true
 ·have e:D.off=D:=by unfold Dk.off;rw [if_pos hd]
  rw [e]
  refine ⟨q.aU,hd.symm,(q.da hd).symm,fun h=>absurd h (by rw [q.da hd];decide),q.da,?_,⟨Int.le_refl 0,by show (0:Int)≤128;omega⟩⟩
  show (if S.down=true then S.bw else IntKind.wrap .i64 (S.bw+1))=D.bw
  rw [q.down,if_pos hd,q.bw]
 ·have e:D.off={ D with down:=true,bX:=false,bw:=IntKind.wrap .i64 (D.bw+1) }:=by unfold Dk.off;rw [if_neg hd]
  rw [e]
  refine ⟨q.aU,rfl,rfl,fun h=>(by cases h),fun _=>rfl,?_,⟨Int.le_refl 0,by show (0:Int)≤128;omega⟩⟩
  show (if S.down=true then S.bw else IntKind.wrap .i64 (S.bw+1))=IntKind.wrap .i64 (D.bw+1)
  rw [q.down,if_neg hd,q.bw]
theorem Eqd.on {D:Dk} {S:Rf} (q:Eqd D S):Eqd D.on S.on:=⟨q.aU,rfl,rfl,fun h=>(by cases h),fun _=>rfl,q.bw,⟨Int.le_refl 0,by show (0:Int)≤128;omega⟩⟩
theorem Eqd.wipe {D:Dk} {S:Rf} (q:Eqd D S):Eqd D.wipe S.wipe:=⟨by unfold Dk.wipe Rf.wipe;rw [q.aU],q.down,q.bX,q.arm,q.da,q.bw,q.kp⟩
theorem Eqd.armT {D:Dk} {S:Rf} (q:Eqd D S) (a k:Int):(S.arm a k).2=(D.arm a k).1∧Eqd (D.arm a k).2 (S.arm a k).1:=by
 have hs:=q.down
 unfold Rf.arm Dk.arm
 cases hd:D.down with
 |true=>
  rw [hd] at hs
  rw [hs]
  exact ⟨rfl,q⟩
 |false=>
  rw [hd] at hs
  rw [hs]
  simp only [Bool.false_eq_true,if_false]
  by_cases hb:a<0∨k<0∨128<k
  ·rw [if_pos hb,if_pos hb];exact ⟨rfl,q⟩
  ·rw [if_neg hb,if_neg hb]
   exact ⟨rfl,q.aU,rfl,rfl,fun _=>⟨rfl,rfl⟩,fun h=>(by cases h),q.bw,by show 0≤k∧k≤128;omega⟩
theorem Eqd.write {D:Dk} {S:Rf} (q:Eqd D S) (hl:D.aU.length=128*D.n) (ha:0≤D.after∧D.after≤9223372036854775807) (i:Int) (b:List Nat):(S.write i b).1=(D.write i b).1∧Eqd (D.write i b).2 (S.write i b).2:=by
 unfold Rf.write Dk.write
 rw [q.fault hl]
 by_cases hf:D.fault i=0
 ·obtain ⟨hdn,hi1,hi2⟩:=Dk.fy hf
  rw [if_pos hf,if_pos hf]
  by_cases hb:b.length=128
  ·rw [if_pos hb,if_pos hb,q.bX]
   have lay : ∀ l,Eqd (D.lay i l) (S.put i.toNat l):=fun l=>⟨by unfold Dk.lay Rf.put;rw [q.aU,Nat.mul_comm],q.down,q.bX,q.arm,q.da,q.bw,q.kp⟩
   cases har:D.bX with
   |true=>
    obtain ⟨e1,e2⟩:=q.arm har
    rw [if_pos rfl,if_pos rfl,e1]
    by_cases hz:D.after=0
    ·rw [if_pos hz,if_pos hz,e2]
     exact ⟨rfl,(lay _).off⟩
    ·rw [if_neg hz,if_neg hz]
     refine ⟨rfl,?_,q.down,har.symm,fun _=>⟨?_,e2⟩,q.da,q.bw,q.kp⟩
     ·exact (lay b).aU
     ·show IntKind.wrap .i64 (D.after-1)=D.after-1
      rw [bE (by omega) (by omega)]
   |false=>
    rw [if_neg (by decide),if_neg (by decide)]
    exact ⟨rfl,lay b⟩
  ·rw [if_neg hb,if_neg hb];exact ⟨rfl,q⟩
 ·rw [if_neg hf,if_neg hf];exact ⟨rfl,q⟩
theorem Eqd.rotT {D:Dk} {S:Rf} (q:Eqd D S) (hl:D.aU.length=128*D.n) (i at_:Int) (m:Nat):(S.rot i at_ m).1=(D.rot i at_ m).1∧Eqd (D.rot i at_ m).2 (S.rot i at_ m).2:=by
 unfold Rf.rot Dk.rot
 rw [q.n hl]
 by_cases hb:i<0∨(D.n:Int)≤i∨at_<0∨127<at_
 ·rw [if_pos hb,if_pos (by omega)];exact ⟨rfl,q⟩
 ·rw [if_neg hb,if_neg (by omega)]
  refine ⟨rfl,?_,q.down,q.bX,q.arm,q.da,q.bw,q.kp⟩
  show cJ S.aU (128*i.toNat) _=_
  rw [q.aU,splice_blk (by omega) (by omega)]
  show D.aU.set _ _=D.aU.set _ _
  congr 1
  have:(ed D.aU i.toNat).getD at_.toNat 0=D.aU.getD (i.toNat*128+at_.toNat) 0:=by
   unfold ed
   rw [List.getD_eq_getElem?_getD,List.getD_eq_getElem?_getD,List.getElem?_take,if_pos (by omega),List.getElem?_drop,Nat.mul_comm]
  rw [this]
end Go.Proofs.Ytcmfgmhadeeieaa

namespace Go.Proofs.Ytcmfgmhadeeieaa
open Go Go.Abs
theorem is102:ch Try.prog 102 Try.f102:=⟨by kernel_rfl,by kernel_rfl,by kernel_rfl,by kernel_rfl⟩
theorem is103:ch Try.prog 103 Try.f103:=⟨by kernel_rfl,by kernel_rfl,by kernel_rfl,by kernel_rfl⟩
theorem is72:ch Try.prog 72 Try.f72:=⟨by kernel_rfl,by kernel_rfl,by kernel_rfl,by kernel_rfl⟩
theorem take_snocN {l:List Nat} {i:Nat} (h:i<l.length):l.take (i+1)=l.take i ++ [l.getD i 0]:=by
 rw [List.take_add_one,List.getElem?_eq_getElem h,List.getD_eq_getElem?_getD,List.getElem?_eq_getElem h];rfl
theorem r102 {h:af} {a:Option Addr} {n c:Nat} {l:List Nat} (e:av a n h=some l) (hn:n≤8):CD 102 [.slice a n c] h=some (.int .u64 ((be l:Nat):Int),h):=by
 obtain ⟨hl,hb,_⟩:=aB e
 have hll:cK (.slice a n c)=some (ao n):=rfl
 refine aK is102 rfl ((t102_eq _ _ _).trans ?_)
 unfold t102
 simp -implicitDefEqProofs only [ae]
 refine cy (n:=20) (fin:=fun ex y g=>ex = .exit 0∧g=h∧y 3 = .int .u64 ((be l:Nat):Int)) (Q:=fun o:Out=>o=some (Value.int .u64 ((be l:Nat):Int),h))
  (ct (t102l102_11010_eq CD) (Inv:=fun k y g => ∃ i,i+k=n∧y 0 = .slice a n c∧y 4=ao i∧g=h∧y 3 = .int .u64 ((be (l.take i):Nat):Int)) ?_ n (by have:rounds=18446744073709551616:=rfl;omega) ⟨0,Nat.zero_add _,rfl,rfl,rfl,rfl⟩) ?_
 ·rintro k y g ⟨i,hik,y0,y4,rfl,y3⟩
  unfold t102l102_11010
  simp -implicitDefEqProofs only [y4,y0,ae,hll,aj,gH]
  by_cases hi:i<n
  ·obtain ⟨b,p,_,i1,i2⟩:=byte_at (c:=c) e hi
   have hv:l.getD i 0<256:=by
    rw [List.getD_eq_getElem?_getD,List.getElem?_eq_getElem (by omega)]
    exact hb _ (List.getElem_mem _)
   have hbe:=be_lt i (l.take i) (by simp;omega) (fun x hx=>hb x (List.mem_of_mem_take hx))
   have hbe2:be (l.take i)<72057594037927936:=Nat.lt_of_lt_of_le hbe (Nat.le_trans (Nat.pow_le_pow_right (by decide) (show i≤7 by omega)) (by decide))
   obtain ⟨b1,b2⟩:=shl_or hbe2 hv
   have hw:IntKind.wrap .u64 ((l.getD i 0:Nat):Int)=((l.getD i 0:Nat):Int):=eE (by omega) (by omega)
   simp -implicitDefEqProofs only [decide_eq_true hi,ae,y3,b1,aj,i1,i2,u8,df,hw,b2,dJ (show i+1≤9223372036854775807 by omega)]
   refine c8.next (k-1) (by omega) ⟨i+1,by omega,y0,rfl,rfl,?_⟩
   rw [take_snocN (by omega),be_snoc];rfl
  ·have:i=n:=by omega
   subst this
   simp -implicitDefEqProofs only [decide_eq_false hi]
   exact c8.out 0 ⟨rfl,rfl,by rw [List.take_of_length_le (by omega)] at y3;exact y3⟩
 ·rintro ex z g ⟨rfl,rfl,z3⟩
  simp -implicitDefEqProofs only [bG,b102_4,if_true,t102k102_2_eq]
  unfold t102k102_2
  rw [z3]
  rfl
theorem xor_add {m:Nat} (hm:m<16) (q:Nat):16*q ^^^ m=16*q+m:=by
 apply Nat.eq_of_testBit_eq
 intro i
 have h1:=Nat.testBit_two_pow_mul_add (i:=4) (b:=m) q hm i
 rw [Nat.testBit_xor,show (16:Nat)=2^4 from rfl,h1,Nat.testBit_two_pow_mul]
 by_cases hi:i<4
 ·rw [if_pos hi,decide_eq_false (by omega),Bool.false_and,Bool.false_xor]
 ·rw [if_neg hi,decide_eq_true (by omega),Bool.true_and,Nat.testBit_lt_two_pow (Nat.lt_of_lt_of_le hm (Nat.pow_le_pow_right (n:=2) (by decide) (show 4≤i by omega))),Bool.xor_false]
theorem half_xor (a b:Nat):(a ^^^ b)/2=a/2 ^^^ b/2:=by
 have:=Nat.shiftRight_xor_distrib (a:=a) (b:=b) (i:=1)
 rw [Nat.shiftRight_eq_div_pow,Nat.shiftRight_eq_div_pow,Nat.shiftRight_eq_div_pow] at this
 exact this
theorem bit_xor (a b:Nat):cg (a ^^^ b)=cg a ^^^ cg b:=by
 unfold cg
 have hm:(a ^^^ b)%2=(a+b)%2:=by
  have h:=Nat.xor_mod_two_pow (a:=a) (b:=b) (n:=1)
  rw [show (2:Nat)^1=2 from rfl] at h
  rw [h]
  rcases Nat.mod_two_eq_zero_or_one a with ha|ha<;>rcases Nat.mod_two_eq_zero_or_one b with hb|hb<;>rw [ha,hb]<;>simp<;>omega
 rw [half_xor,hm]
 rcases Nat.mod_two_eq_zero_or_one a with ha|ha<;>rcases Nat.mod_two_eq_zero_or_one b with hb|hb
 ·rw [show (a+b)%2=0 by omega,ha,hb];simp
 ·rw [show (a+b)%2=1 by omega,ha,hb,Nat.mul_one,Nat.mul_zero,Nat.xor_zero,Nat.xor_assoc]
 ·rw [show (a+b)%2=1 by omega,ha,hb,Nat.mul_one,Nat.mul_zero,Nat.xor_zero,Nat.xor_assoc,Nat.xor_comm (b/2),Nat.xor_assoc]
 ·rw [show (a+b)%2=0 by omega,ha,hb,Nat.mul_one,Nat.mul_zero,Nat.xor_zero]
  generalize (0x82f63b78:Nat)=p
  rw [Nat.xor_assoc,←Nat.xor_assoc p,Nat.xor_comm p,Nat.xor_assoc,Nat.xor_self,Nat.xor_zero]
theorem bit_even (q:Nat):cg (2*q)=q:=by
 unfold cg
 rw [show 2*q/2=q by omega,show 2*q%2=0 by omega,Nat.mul_zero,Nat.xor_zero]
theorem bit4 (r:Nat):cg (cg (cg (cg r)))=gD iE r:=by
 have hr:r=16*(r/16) ^^^ r%16:=by rw [xor_add (by omega)];omega
 have h16:cg (cg (cg (cg (16*(r/16)))))=r/16:=by
  rw [show 16*(r/16)=2*(2*(2*(2*(r/16)))) by omega,bit_even,bit_even,bit_even,bit_even]
 calc cg (cg (cg (cg r)))=cg (cg (cg (cg (16*(r/16) ^^^ r%16)))):=by rw [←hr]
  _=cg (cg (cg (cg (16*(r/16))))) ^^^ cg (cg (cg (cg (r%16)))):=by rw [bit_xor,bit_xor,bit_xor,bit_xor]
  _=gD iE r:=by rw [h16,Nat.xor_comm];rfl
theorem bit_if (r:Nat):cg r=if r%2=1 then r/2 ^^^ 2197175160 else r/2:=by
 unfold cg
 rcases Nat.mod_two_eq_zero_or_one r with h|h
 ·rw [h,if_neg (by decide),Nat.mul_zero,Nat.xor_zero]
 ·rw [h,if_pos rfl,Nat.mul_one]
theorem crcIter8 (r x:Nat):fx (r ^^^ x) 8=fO r x:=by
 show cg (cg (cg (cg (cg (cg (cg (cg (r ^^^ x))))))))=gD iE (gD iE (r ^^^ x))
 rw [bit4,bit4]
theorem crc_in (X:Nat→Value) (g:af) {c0:Nat} (hc:c0<4294967296) (x3:X 3=u32 c0) (x5:X 5=ao 0) :
  Fin 33 (fun ex y g'=>ex = .exit 2∧g'=g∧y 0=X 0∧y 4=X 4∧y 3=u32 (fx c0 8)) (iter (aL Try.prog CD (partOf Try.f103 [1,1,0,1,0,0,1,0,0,1,1,0,0])) rounds (aZ 33 X) g):=by
 refine ct (t103l103_110100100110_eq CD) (Inv:=fun k y g' => ∃ i,i+k=8∧y 5=ao i∧g'=g∧y 0=X 0∧y 4=X 4∧y 3=u32 (fx c0 i)) ?_ 8 (by have:rounds=18446744073709551616:=rfl;omega) ⟨0,rfl,x5,rfl,rfl,rfl,x3⟩
 rintro k y g' ⟨i,hik,y5,rfl,y0,y4,y3⟩
 have hlss:bin Try.prog .lss 3 (ao i) (.int .i64 8)=some (.bool (decide (i<8))):=gH i 8
 unfold fH
 simp -implicitDefEqProofs only [y5,ae,hlss,aj]
 by_cases hi:i<8
 ·have hci:=crcIter_lt hc i
  obtain ⟨o1,o2,_,_⟩:=crc_bit_ops hci
  have hx:=fp Try.prog 113 (k := .u32) rfl (a:=fx c0 i/2) (b:=2197175160) (by show _<2^32;omega) (by show _<2^32;omega)
  have hx':bin Try.prog .xor 113 (u32 (fx c0 i/2)) (.int .u32 2197175160)=some (u32 (fx c0 i/2 ^^^ 2197175160)):=hx
  have hnext:=bit_if (fx c0 i)
  rcases Nat.mod_two_eq_zero_or_one (fx c0 i) with hm|hm
  ·rw [hm,if_neg (by decide)] at hnext
   have he:bin Try.prog .eql 113 (u32 (fx c0 i%2)) (.int .u32 1)=some (.bool false):=by rw [hm];kernel_rfl
   simp -implicitDefEqProofs only [decide_eq_true hi,ae,y3,o1,o2,he,aj,dJ (show i+1≤9223372036854775807 by omega)]
   exact c8.next (k-1) (by omega) ⟨i+1,by omega,rfl,rfl,y0,y4,by show u32 _=u32 (cg (fx c0 i));rw [hnext]⟩
  ·rw [hm,if_pos rfl] at hnext
   have he:bin Try.prog .eql 113 (u32 (fx c0 i%2)) (.int .u32 1)=some (.bool true):=by rw [hm];kernel_rfl
   simp -implicitDefEqProofs only [decide_eq_true hi,ae,y3,o1,o2,he,hx',aj,dJ (show i+1≤9223372036854775807 by omega)]
   exact c8.next (k-1) (by omega) ⟨i+1,by omega,rfl,rfl,y0,y4,by show u32 _=u32 (cg (fx c0 i));rw [hnext]⟩
 ·have:i=8:=by omega
  subst this
  simp -implicitDefEqProofs only [decide_eq_false hi]
  exact c8.out 2 ⟨rfl,rfl,y0,y4,y3⟩
theorem r103 {h:af} {a:Option Addr} {n c:Nat} {l:List Nat} (e:av a n h=some l) (hn:n≤1000000):CD 103 [.slice a n c] h=some (u32 (crcN l),h):=by
 obtain ⟨hl,hb,_⟩:=aB e
 have hll:cK (.slice a n c)=some (ao n):=rfl
 refine aK is103 rfl ((t103_eq _ _ _).trans ?_)
 unfold t103
 simp -implicitDefEqProofs only [ae]
 refine cy (n:=33) (fin:=fun ex y g=>ex = .exit 0∧g=h∧y 3=u32 (l.foldl fO 4294967295)) (Q:=fun o:Out=>o=some (u32 (crcN l),h))
  (ct (t103l103_11010_eq CD) (Inv:=fun k y g => ∃ i,i+k=n∧y 0 = .slice a n c∧y 4=ao i∧g=h∧y 3=u32 ((l.take i).foldl fO 4294967295)) ?_ n (by have:rounds=18446744073709551616:=rfl;omega) ⟨0,Nat.zero_add _,rfl,rfl,rfl,rfl⟩) ?_
 ·rintro k y g ⟨i,hik,y0,y4,rfl,y3⟩
  unfold t103l103_11010
  simp -implicitDefEqProofs only [y4,y0,ae,hll,aj,gH]
  by_cases hi:i<n
  ·obtain ⟨b,p,_,i1,i2⟩:=byte_at (c:=c) e hi
   have hv:l.getD i 0<256:=by
    rw [List.getD_eq_getElem?_getD,List.getElem?_eq_getElem (by omega)]
    exact hb _ (List.getElem_mem _)
   have hc:(l.take i).foldl fO 4294967295<4294967296:=crcFold_lt _ _ (by omega) (fun x hx=>hb x (List.mem_of_mem_take hx))
   have hw:IntKind.wrap .u32 ((l.getD i 0:Nat):Int)=((l.getD i 0:Nat):Int):=wrap_u32 (by omega) (by omega)
   have hx:=fp Try.prog 113 (k := .u32) rfl (a:=(l.take i).foldl fO 4294967295) (b:=l.getD i 0) hc (by show _<2^32;omega)
   have hx2:(l.take i).foldl fO 4294967295 ^^^ l.getD i 0<4294967296:=Nat.xor_lt_two_pow (n:=32) hc (by omega)
   simp -implicitDefEqProofs only [decide_eq_true hi,ae,y3,aj,i1,i2,u8,df,hw,hx]
   refine cy (crc_in _ g hx2 rfl rfl) ?_
   rintro ex z g' ⟨rfl,rfl,z0,z4,z3⟩
   simp -implicitDefEqProofs only [bG,b103_12,if_true,t103k103_8_eq]
   unfold t103k103_8
   have z4:z 4=ao i:=z4.trans y4
   simp -implicitDefEqProofs only [z4,ae,aj,dJ (show i+1≤9223372036854775807 by omega)]
   refine c8.next (k-1) (by omega) ⟨i+1,by omega,z0.trans y0,rfl,rfl,?_⟩
   show z 3=_
   rw [z3,crcIter8,take_snocN (by omega),List.foldl_append]
   rfl
  ·have:i=n:=by omega
   subst this
   simp -implicitDefEqProofs only [decide_eq_false hi]
   exact c8.out 0 ⟨rfl,rfl,by rw [List.take_of_length_le (by omega)] at y3;exact y3⟩
 ·rintro ex z g ⟨rfl,rfl,z3⟩
  simp -implicitDefEqProofs only [bG,b103_4,if_true,t103k103_2_eq]
  unfold t103k103_2
  simp -implicitDefEqProofs only [z3,ae,unA_xor_u32 (crcFold_lt l 4294967295 (by omega) hb),aj]
  rfl
theorem r72 {h:af} {a:Option Addr} {n c:Nat} {l:List Nat} (e:av a n h=some l) (hg:cU a n c=true) (hn:n=128):CD 72 [.slice a n c] h=some (.bool (right l),h):=by
 subst hn
 obtain ⟨hl,hb,_⟩:=aB e
 have hle:=iC hg
 obtain ⟨a1,c1,s1,s2,s3⟩:=eQ (lo:=0) (hi:=4) (vl:=none) (vh:=some (.int .i64 4)) hg e (by omega) (by omega) (by
  unfold cp
  simp only
  rw [if_pos (by omega)];rfl) rfl
 obtain ⟨a2,c2,t1,t2,t3⟩:=eQ (lo:=4) (hi:=128) (vl:=some (.int .i64 4)) (vh:=none) hg e (by omega) (by omega) rfl (by
  unfold cp
  simp only
  rw [if_pos (by omega)];rfl)
 rw [List.drop_zero] at s2
 have ht:(l.drop 4).take (128-4)=l.drop 4:=List.take_of_length_le (by rw [List.length_drop];omega)
 rw [ht] at t2
 have e1:=r102 (c:=c1) s2 (by omega)
 have e2:=r103 (c:=c2) t2 (by omega)
 have hcr:=crcN_lt (l:=l.drop 4) (fun x hx=>hb x (List.mem_of_mem_drop hx))
 have hw:IntKind.wrap .u64 ((crcN (l.drop 4):Nat):Int)=((crcN (l.drop 4):Nat):Int):=eE (by omega) (by omega)
 refine aK is72 rfl ((t72_eq _ _ _).trans ?_)
 unfold t72
 simp -implicitDefEqProofs only [ae,s1,aj,e1,t1,e2,u32,df,hw,bZ]
 unfold right
 rw [←int_beq]
end Go.Proofs.Ytcmfgmhadeeieaa

namespace Go.Proofs.Ytcmfgmhadeeieaa
open Go Go.Abs
theorem is46:ch Try.prog 46 Try.f46:=⟨by kernel_rfl,by kernel_rfl,by kernel_rfl,by kernel_rfl⟩
theorem is96:ch Try.prog 96 Try.f96:=⟨by kernel_rfl,by kernel_rfl,by kernel_rfl,by kernel_rfl⟩
theorem is65:ch Try.prog 65 Try.f65:=⟨by kernel_rfl,by kernel_rfl,by kernel_rfl,by kernel_rfl⟩
theorem results96:Try.f96.results.toList = [.cell 4 118]:=by kernel_rfl
theorem results65:Try.f65.results.toList = [.tmp 2,.cell 3 118]:=by kernel_rfl
theorem ld118 (v:Value) (h:af):ld Try.prog 118 v h=bD 3 v h:=by
 unfold ld
 rw [show aggT Try.prog 118=some true by kernel_rfl,show eh Try.prog 118=some 3 by kernel_rfl]
theorem mkF_at {n k:Nat} (hk:k<n) (x:Nat→Value):(aZ n x).getD k undef=x k:=by
 unfold aZ
 simp [hk]
theorem res_c {rs:List ResultVar} {n k t m:Nat} (hr:rs = [.cell k t]) (hk:k<n) (hld : ∀ v h,ld Try.prog t v h=bD m v h) (x:Nat→Value) {h:af} {v:Value} (e:bD m (x k) h=some (v,h)):al Try.prog rs (aZ n x) h=some (v,h):=by
 subst hr
 simp only [al,dS,mkF_at hk,hld,e]
 rfl
theorem res_tc {rs:List ResultVar} {n k t m q:Nat} (hr:rs = [.tmp q,.cell k t]) (hk:k<n) (hq:q<n) (hld : ∀ v h,ld Try.prog t v h=bD m v h) (x:Nat→Value) {h:af} {v:Value} (e:bD m (x k) h=some (v,h)):al Try.prog rs (aZ n x) h=some (.tuple #[x q,v],h):=by
 subst hr
 simp only [al,List.mapM_cons,List.mapM_nil,dS,mkF_at hk,mkF_at hq,hld,e]
 rfl
theorem fW {h:af} {b n:Nat} {k k':dV} (g:h.get b=some k) (h0:h.n0≤b) (hl:k.length=n) (hl':k'.length=n) (ho:bI k'=true) (hh:Abs.cN k'=true) :
  bK n (ptr b 0) (.agg k'.toArray) h=some (undef,h.set b k')∧bD n (ptr b 0) (h.set b k')=some (.agg k'.toArray,h.set b k')∧(h.set b k').get b=some k'∧Kept h (h.set b k') (fun c=>c=b):=by
 have g':=af.a9 h0 g k'
 exact ⟨stN_whole g h0 hl hl' ho,cz g' hl' hh,g',Kept.set h0 g (.inr rfl)⟩
def dg (b:List Nat):dV:=if bW b=true then [.bool true,.int .u64 ((ba b:Nat):Int),ao (de b)] else [.bool false,.int .u64 0,.int .i64 0]
theorem eO (b:List Nat):(dg b).length=3:=by unfold dg;split<;>rfl
theorem gl (b:List Nat):bI (dg b)=true:=by unfold dg;split<;>rfl
theorem dW (b:List Nat):Abs.cN (dg b)=true:=by unfold dg;split<;>rfl
theorem stol {b:List Nat} (hb : ∀ y∈b,y<256) (hl:b.length=128):((iz ((b.drop 4).take 4)).toList==(⟨#[83,84,79,76]⟩:ByteArray).toList)=(be ((b.drop 4).take 4)==1398034252):=by
 have h1:(⟨#[83,84,79,76]⟩:ByteArray)=iz [83,84,79,76]:=rfl
 have h2 : ∀ y∈(b.drop 4).take 4,y<256:=fun y hy=>hb y (List.mem_of_mem_drop (List.mem_of_mem_take hy))
 have hlen:((b.drop 4).take 4).length=4:=by rw [List.length_take,List.length_drop];omega
 rw [h1,strOf_inj h2 (by decide)]
 by_cases he:(b.drop 4).take 4 = [83,84,79,76]
 ·rw [he];rfl
 ·rw [decide_eq_false he]
  symm
  rw [beq_eq_false_iff_ne]
  intro h
  exact he (be_inj (by rw [hlen];rfl) h2 (by decide) (h.trans (by rfl)))
section
variable {h:af} {F:Nat→Prop} {v:Value} {S:Rf} (x:bT h F v S) {D:Dk} (hi:S.aU=D.aU) (hl:D.aU.length=128*D.n) (h4:4≤D.n) (hn:D.n≤4096)
include x hi hl h4 hn
theorem r46 : ∃ h',CD 46 [v] h=some (ao D.ar,h')∧Old h h':=by
 have x':=x
 obtain ⟨a,c,g,rfl,b1,b2,b3,_⟩:=cZ x
 obtain ⟨g1,e51,o51⟩:=r51 (x'.bS b3) (by rw [hi];omega)
 have e51:CD 51 [.agg (S.cells (.slice a S.aU.length c)).toArray] g=some (ao D.n,g1):=by rw [e51,hi,hl,Nat.mul_div_cancel_left _ (by decide)]
 have hsub:bin Try.prog .sub 3 (ao D.n) (.int .i64 2)=some (ao (D.n-2)):=sub3 (b:=2) (by omega) (by omega)
 have hquo:bin Try.prog .quo 3 (ao (D.n-2)) (.int .i64 2)=some (ao D.ar):=by
  rw [bin_quo _ _ _ _ _ (by decide)]
  have:((D.n-2:Nat):Int).tdiv 2=((D.ar:Nat):Int):=by rw [Int.tdiv_eq_ediv_of_nonneg (by omega)];rfl
  have har:D.ar=(D.n-2)/2:=rfl
  rw [this,bE (by omega) (by omega)]
 refine ⟨g1,aK is46 rfl ((t46_eq _ _ _).trans ?_),b3.trans o51⟩
 unfold t46
 simp -implicitDefEqProofs only [b1,ae,dD b2 rfl (aR _ _ _ _),e51,hsub,hquo,aj]
theorem rblk {i:Nat} (hin:i<D.n) : ∃ a c h',CD 104 [v,ao i] h=some (.slice a 128 c,h')∧av a 128 h'=some (D.bJ i)∧cU a 128 c=true∧(∀ y,a=some y→h.next≤y.block)∧Old h h'∧(D.bJ i).length=128:=by
 have hbl:=D.blk_len hl hin
 obtain ⟨w,h',e,ow,o⟩:=r104 x (by rw [hi];omega) (i:=i) (by rw [hi];omega)
 have hb:(S.aU.drop (128*i)).take 128=D.bJ i:=by unfold Dk.bJ;rw [hi,Nat.mul_comm]
 rw [hb] at ow
 obtain ⟨a,c,rfl,s1,s2,s3,_⟩:=ow.bytes
 rw [hbl] at e s1 s2
 exact ⟨a,c,h',e,s1,s2,s3,o,hbl⟩
set_option maxRecDepth 100000 in
theorem r96 {s:Nat} (hs:s<2) : ∃ h',CD 96 [v,ao s] h=some (.agg (dg (D.bJ s)).toArray,h')∧Old h h':=by
 have x':=x
 obtain ⟨a,c,g,rfl,b1,b2,b3,b4,_⟩:=cZ x
 have hn0:=h.aF
 have hnew:dp [(.bool false),(.int .u64 0),(.int .i64 0)] g=some (ptr g.next 0,g.alloc [(.bool false),(.int .u64 0),(.int .i64 0)]):=rfl
 have oz:Old g (g.alloc [(.bool false),(.int .u64 0),(.int .i64 0)]):=Kept.alloc _ _ _
 have gz:(g.alloc [(.bool false),(.int .u64 0),(.int .i64 0)]).get g.next=some [(.bool false),(.int .u64 0),(.int .i64 0)]:=by rw [af.aD,if_pos rfl]
 have b2z:=Old.get oz b2
 generalize g.alloc [(.bool false),(.int .u64 0),(.int .i64 0)]=q0 at *
 have o0:=b3.trans oz
 obtain ⟨ab,cb,q1,e104,sb,gb,_,o1,hbl⟩:=rblk (x'.bS o0) hi hl h4 hn (i:=s) (by omega)
 have hbyte:=(aB sb).2.1
 have e72:=r72 sb gb rfl
 have hle:=iC gb
 have o01:=o0.trans o1
 have gz1:=Old.get o1 gz
 have ldx:=dD b2z rfl (aR _ _ _ _)
 obtain ⟨a1,c1,s1,t1,_⟩:=eQ (lo:=4) (hi:=8) (vl:=some (.int .i64 4)) (vh:=some (.int .i64 8)) gb sb (by omega) (by omega) (by unfold cp;simp only;rw [if_pos (by omega)];rfl) (by unfold cp;simp only;rw [if_pos (by omega)];rfl)
 have cv:=eP (c:=c1) t1
 obtain ⟨a2,c2,s2,t2,_⟩:=eQ (lo:=8) (hi:=16) (vl:=some (.int .i64 8)) (vh:=some (.int .i64 16)) gb sb (by omega) (by omega) (by unfold cp;simp only;rw [if_pos (by omega)];rfl) (by unfold cp;simp only;rw [if_pos (by omega)];rfl)
 have e102:=r102 (c:=c2) t2 (by omega)
 obtain ⟨pb,pp,_,i1,i2⟩:=byte_at (c:=cb) sb (i:=16) (by omega)
 have i1:bV 1 (.slice ab 128 cb) (.int .i64 16)=some (ptr pb pp):=i1
 have hv:(D.bJ s).getD 16 0<256:=by
  rw [List.getD_eq_getElem?_getD,List.getElem?_eq_getElem (by omega)]
  exact hbyte _ (List.getElem_mem _)
 have har:de (D.bJ s)=(D.bJ s).getD 16 0:=by
  unfold de
  have:((D.bJ s).drop 16).take 1 = [(D.bJ s).getD 16 0]:=by
   rw [List.getD_eq_getElem?_getD,List.getElem?_eq_getElem (by omega),List.drop_eq_getElem_cons (by omega)];rfl
  rw [this]
  simp [be]
 have hgt:bin Try.prog .gtr 5 (u8 ((D.bJ s).getD 16 0)) (.int .u8 1)=some (.bool (decide (1<(D.bJ s).getD 16 0))):=by
  rw [dB]
  exact congrArg (fun q=>some (Value.bool q)) (decide_eq_decide.2 (by omega))
 have hw:IntKind.wrap .i64 (((D.bJ s).getD 16 0:Nat):Int)=(((D.bJ s).getD 16 0:Nat):Int):=bE (by omega) (by omega)
 have bad:bW (D.bJ s)=false→dg (D.bJ s) = [.bool false,.int .u64 0,.int .i64 0]:=fun h=>by unfold dg;rw [h,if_neg (by decide)]
 have hn1:q1.n0≤g.next:=by rw [o01.n0];omega
 obtain ⟨p1,p2,p3,p4⟩:=fW (n:=3) gz1 hn1 rfl (eO (D.bJ s)) (gl _) (dW _)
 have oo:Old h (q1.set g.next (dg (D.bJ s))):=o01.bM p4 (fun c hc e=>by omega)
 refine ⟨_,aK is96 rfl ((t96_eq _ _ _ _).trans ?_),oo⟩
 have hz:ff [(.bool false),(.int .u64 0),(.int .i64 0)] []=some (.agg #[(.bool false),(.int .u64 0),(.int .i64 0)]):=rfl
 unfold t96
 simp -implicitDefEqProofs only [b1,ae,hnew,ldx,e104,e72,bR,aj,az]
 cases hr:right (D.bJ s) with
 |false=>
  have hb:=bad (by unfold bW;rw [hr];rfl)
  rw [hb] at p1 p2 ⊢
  simp -implicitDefEqProofs only [Bool.not_false,sf,aE,ae,if_true,az,hz,p1,aj]
  exact res_c (rs:=Try.f96.results.toList) (n:=33) results96 (by decide) ld118 _ p2
 |true=>
  simp -implicitDefEqProofs only [Bool.not_true,beq_self_eq_true,ay,ae,s1,cv,aj,dL,stol hbyte hbl,Bool.false_eq_true,if_false,az]
  cases hm:(be (((D.bJ s).drop 4).take 4)==1398034252) with
  |false=>
   have hb:=bad (by unfold bW;rw [hr,hm];rfl)
   rw [hb] at p1 p2 ⊢
   simp -implicitDefEqProofs only [Bool.not_false,sf,aE,ae,if_true,az,hz,p1,aj]
   exact res_c (rs:=Try.f96.results.toList) (n:=33) results96 (by decide) ld118 _ p2
  |true=>
   simp -implicitDefEqProofs only [Bool.not_true,beq_self_eq_true,ay,ae,i1,i2,aj,hgt,Bool.false_eq_true,if_false,az]
   by_cases hA:1<(D.bJ s).getD 16 0
   ·have hb:=bad (by unfold bW;rw [har,decide_eq_false (by omega),Bool.and_false])
    rw [hb] at p1 p2 ⊢
    simp -implicitDefEqProofs only [decide_eq_true hA,hz,p1,aj,ae]
    exact res_c (rs:=Try.f96.results.toList) (n:=33) results96 (by decide) ld118 _ p2
   ·have hok:bW (D.bJ s)=true:=by unfold bW;rw [hr,hm,har,decide_eq_true (by omega)];rfl
    have hC:dg (D.bJ s) = [.bool true,.int .u64 ((ba (D.bJ s):Nat):Int),ao ((D.bJ s).getD 16 0)]:=by unfold dg;rw [hok,if_pos rfl,har]
    rw [hC] at p1 p2 ⊢
    have hbl2:ff [(.bool false),(.int .u64 0),(.int .i64 0)] [(0,1,(.bool true)),(1,1,.int .u64 ((be (((D.bJ s).drop 8).take (16-8)):Nat):Int)),(2,1,ao ((D.bJ s).getD 16 0))]=some (.agg [.bool true,.int .u64 ((ba (D.bJ s):Nat):Int),ao ((D.bJ s).getD 16 0)].toArray):=rfl
    have hck1:bU true (some (u8 ((D.bJ s).getD 16 0),q1)) (u8 ((D.bJ s).getD 16 0))=true:=du rfl (by simp [veq])
    have hck2:bU true (some (ao ((D.bJ s).getD 16 0),q1)) (ao ((D.bJ s).getD 16 0))=true:=du rfl (by simp [veq])
    have cvi:cvI .i64 (u8 ((D.bJ s).getD 16 0)) q1=some (ao ((D.bJ s).getD 16 0),q1):=by rw [u8,df,hw]
    simp -implicitDefEqProofs only [decide_eq_false hA,s2,aj,e102,ae,i1,i2,cvi,hbl2,p1,hck1,hck2,Bool.and_true]
    exact res_c (rs:=Try.f96.results.toList) (n:=33) results96 (by decide) ld118 _ p2
end
end Go.Proofs.Ytcmfgmhadeeieaa

namespace Go.Proofs.Ytcmfgmhadeeieaa
open Go Go.Abs
theorem openJ_act (D:Dk) (t:Int):((D.cL t).slot,(D.cL t).gen,(D.cL t).aq) =
  if bW (D.bJ 1)=true∧(bW (D.bJ 0)=false∨ba (D.bJ 0)<ba (D.bJ 1)) then (1,ba (D.bJ 1),de (D.bJ 1))
  else if bW (D.bJ 0)=true then (0,ba (D.bJ 0),de (D.bJ 0)) else (-1,0,0):=by
 have h:(D.cL t).un=_:=D.openJ_un t
 have h1:(D.cL t).slot=(D.cL t).un.slot:=rfl
 have h2:(D.cL t).gen=(D.cL t).un.gen:=rfl
 have h3:(D.cL t).aq=(D.cL t).un.aq:=rfl
 rw [h1,h2,h3,h]
 cases k1:bW (D.bJ 1) with
 |false=>
  simp only [Bool.false_eq_true,if_false,false_and]
  cases k0:bW (D.bJ 0) with
  |false=>rfl
  |true=>rw [if_pos rfl,if_pos rfl,Dk.jn0_take];rfl
 |true=>
  rw [if_pos rfl]
  cases k0:bW (D.bJ 0) with
  |false=>rw [if_neg (by decide),if_pos ⟨rfl,.inl rfl⟩,Dk.jn0_take];rfl
  |true=>
   rw [if_pos rfl,Dk.jn0_take]
   by_cases hg:ba (D.bJ 0)<ba (D.bJ 1)
   ·rw [if_pos ⟨rfl,.inr hg⟩]
    unfold Jn.cm
    rw [if_pos (.inr hg)];rfl
   ·rw [if_neg (by rintro ⟨_,h|h⟩;cases h;exact hg h),if_pos rfl]
    unfold Jn.cm
    rw [if_neg (by rintro (h|h);exact absurd h (by show ¬(((0:Nat):Int)<0);decide);exact hg h)];rfl
section
variable {h:af} {F:Nat→Prop} {v:Value} {S:Rf} (x:bT h F v S) {D:Dk} (hi:S.aU=D.aU) (hl:D.aU.length=128*D.n) (h4:4≤D.n) (hn:D.n≤4096)
include x hi hl h4 hn
set_option maxRecDepth 100000 in
theorem r65 (t:Int) : ∃ ok h',CD 65 [v] h=some (.tuple #[.int .i64 (D.cL t).slot,.agg #[.bool ok,.int .u64 (((D.cL t).gen:Nat):Int),ao (D.cL t).aq]],h')∧Old h h':=by
 have x':=x
 have hact:=openJ_act D t
 obtain ⟨a,c,g,rfl,b1,b2,b3,b4,_⟩:=cZ x
 have hn0:=h.aF
 have hnew : ∀ q:af,dp [(.bool false),(.int .u64 0),(.int .i64 0)] q=some (ptr q.next 0,q.alloc [(.bool false),(.int .u64 0),(.int .i64 0)]):=fun _=>rfl
 have getz : ∀ q:af,(q.alloc [(.bool false),(.int .u64 0),(.int .i64 0)]).get q.next=some [(.bool false),(.int .u64 0),(.int .i64 0)]:=fun q=>by rw [af.aD,if_pos rfl]
 have oz:Old g (g.alloc [(.bool false),(.int .u64 0),(.int .i64 0)]):=Kept.alloc _ _ _
 have gz:=getz g
 have hn1:=hnew g
 have b2z:=Old.get oz b2
 have nz:(g.alloc [(.bool false),(.int .u64 0),(.int .i64 0)]).next=g.next+1:=af.aW ..
 generalize g.alloc [(.bool false),(.int .u64 0),(.int .i64 0)]=q0 at *
 have o0:=b3.trans oz
 obtain ⟨q1,e1,o1⟩:=r96 (x'.bS o0) hi hl h4 hn (s:=0) (by omega)
 obtain ⟨q2,e2,o2⟩:=r96 (x'.bS (o0.trans o1)) hi hl h4 hn (s:=1) (by omega)
 have ld0:=dD b2z rfl (aR _ _ _ _)
 have ld1':=dD (Old.get o1 b2z) rfl (aR _ _ _ _)
 have nq1:=o1.next
 have nq2:=o2.next
 have gz2:=Old.get (o1.trans o2) gz
 have o02:=(o0.trans o1).trans o2
 have hn2:=hnew q2
 have o3:Old q2 (q2.alloc [(.bool false),(.int .u64 0),(.int .i64 0)]):=Kept.alloc _ _ _
 have g4:=getz q2
 have n3:(q2.alloc [(.bool false),(.int .u64 0),(.int .i64 0)]).next=q2.next+1:=af.aW ..
 generalize q2.alloc [(.bool false),(.int .u64 0),(.int .i64 0)]=q3 at *
 have hn3:=hnew q3
 have o4:Old q3 (q3.alloc [(.bool false),(.int .u64 0),(.int .i64 0)]):=Kept.alloc _ _ _
 have g5:=getz q3
 have n4:(q3.alloc [(.bool false),(.int .u64 0),(.int .i64 0)]).next=q3.next+1:=af.aW ..
 generalize q3.alloc [(.bool false),(.int .u64 0),(.int .i64 0)]=q4 at *
 have g44:=Old.get o4 g4
 have gz4:=Old.get (o3.trans o4) gz2
 have o04:=(o02.trans o3).trans o4
 have hle:q4.n0≤h.next:=by rw [o04.n0];exact hn0
 obtain ⟨s1,_,s3,s4⟩:=fW (n:=3) g44 (by omega) rfl (eO (D.bJ 0)) (gl _) (dW _)
 have g55:=s4.cB g5 (by omega)
 have gz5:=s4.cB gz4 (by omega)
 have nn5:(q4.set q2.next (dg (D.bJ 0))).n0≤h.next:=by rw [s4.n0];exact hle
 have nx5:=s4.next
 generalize q4.set q2.next (dg (D.bJ 0))=q5 at *
 obtain ⟨t1,t2,t3,t4⟩:=fW (n:=3) g55 (by omega) rfl (eO (D.bJ 1)) (gl _) (dW _)
 have g46:=t4.cB s3 (by omega)
 have gz6:=t4.cB gz5 (by omega)
 have nn6:(q5.set q3.next (dg (D.bJ 1))).n0≤h.next:=by rw [t4.n0];exact nn5
 generalize q5.set q3.next (dg (D.bJ 1))=q6 at *
 have o06:Old h q6:=(o04.bM s4 (fun c hc e=>by omega)).bM t4 (fun c hc e=>by omega)
 have hck:bU true (some (Value.agg (S.cells (.slice a S.aU.length c)).toArray,q0)) (.agg (S.cells (.slice a S.aU.length c)).toArray)=true:=du rfl (by simp [veq,veqL,Rf.cells])
 have e1:CD 96 [.agg (S.cells (.slice a S.aU.length c)).toArray,.int .i64 0] q0=some (.agg (dg (D.bJ 0)).toArray,q1):=e1
 have e2:CD 96 [.agg (S.cells (.slice a S.aU.length c)).toArray,.int .i64 1] q1=some (.agg (dg (D.bJ 1)).toArray,q2):=e2
 have fin : ∀ k':dV,k'.length=3→bI k'=true→Abs.cN k'=true → ∃ q7,bK 3 (ptr g.next 0) (.agg k'.toArray) q6=some (undef,q7)∧bD 3 (ptr g.next 0) q7=some (.agg k'.toArray,q7)∧Old h q7:=by
  intro k' k1 k2 k3
  obtain ⟨u1,u2,_,u4⟩:=fW (n:=3) gz6 (by omega) rfl k1 k2 k3
  exact ⟨_,u1,u2,o06.bM u4 (fun c hc e=>by omega)⟩
 have fb0 : ∀ b:List Nat,aV (ptr q2.next 0) q6=some (.bool (bW (D.bJ 0)),q6):=fun _=>aJ g46 (by unfold dg;split<;>simp_all) rfl
 have fb1:aV (ptr q3.next 0) q6=some (.bool (bW (D.bJ 1)),q6):=aJ t3 (by unfold dg;split<;>simp_all) rfl
 have fb0:=fb0 []
 have head : ∀ o:Out,t65 CD (.agg (S.cells (.slice a S.aU.length c)).toArray) h=o→o=o:=fun _ _=>rfl
 have uf:(aO undef==some false)=false:=rfl
 cases k1:bW (D.bJ 1) with
 |false=>
  rw [k1] at fb1 hact
  rw [if_neg (by simp)] at hact
  cases k0:bW (D.bJ 0) with
  |false=>
   rw [k0] at fb0 hact
   rw [if_neg (by decide)] at hact
   simp only [Prod.mk.injEq] at hact
   obtain ⟨q7,u1,u2,u3⟩:=fin [.bool false,.int .u64 0,.int .i64 0] rfl rfl rfl
   refine ⟨false,q7,aK is65 rfl ((t65_eq _ _ _).trans ?_),u3⟩
   rw [hact.1,hact.2.1,hact.2.2]
   have hz:ff [(.bool false),(.int .u64 0),(.int .i64 0)] []=some (.agg [.bool false,.int .u64 0,.int .i64 0].toArray):=rfl
   unfold t65
   simp -implicitDefEqProofs only [b1,ae,hn1,ld0,e1,ld1',e2,hn2,hn3,s1,t1,hck,Bool.and_true,ax,Nat.zero_add,aj,fb1,az,fs,aE,uf,Bool.false_eq_true,if_false,fb0,hz,u1]
   exact res_tc (rs:=Try.f65.results.toList) (n:=29) results65 (by decide) (by decide) ld118 _ u2
  |true=>
   rw [k0] at fb0 hact
   rw [if_pos rfl] at hact
   simp only [Prod.mk.injEq] at hact
   have hC:dg (D.bJ 0) = [.bool true,.int .u64 ((ba (D.bJ 0):Nat):Int),ao (de (D.bJ 0))]:=by unfold dg;rw [k0,if_pos rfl]
   have ld4:=cz g46 (eO _) (dW _)
   obtain ⟨q7,u1,u2,u3⟩:=fin (dg (D.bJ 0)) (eO _) (gl _) (dW _)
   refine ⟨true,q7,aK is65 rfl ((t65_eq _ _ _).trans ?_),u3⟩
   rw [hact.1,hact.2.1,hact.2.2]
   unfold t65
   simp -implicitDefEqProofs only [b1,ae,hn1,ld0,e1,ld1',e2,hn2,hn3,s1,t1,hck,Bool.and_true,ax,Nat.zero_add,aj,fb1,az,fs,aE,uf,Bool.false_eq_true,if_false,fb0,ld4,u1]
   rw [hC] at u2
   exact res_tc (rs:=Try.f65.results.toList) (n:=29) results65 (by decide) (by decide) ld118 _ u2
 |true=>
  rw [k1] at fb1 hact
  have hC1:dg (D.bJ 1) = [.bool true,.int .u64 ((ba (D.bJ 1):Nat):Int),ao (de (D.bJ 1))]:=by unfold dg;rw [k1,if_pos rfl]
  have ld5:=cz t3 (eO _) (dW _)
  cases k0:bW (D.bJ 0) with
  |false=>
   rw [k0] at fb0 hact
   rw [if_pos ⟨rfl,.inl rfl⟩] at hact
   simp only [Prod.mk.injEq] at hact
   obtain ⟨q7,u1,u2,u3⟩:=fin (dg (D.bJ 1)) (eO _) (gl _) (dW _)
   refine ⟨true,q7,aK is65 rfl ((t65_eq _ _ _).trans ?_),u3⟩
   rw [hact.1,hact.2.1,hact.2.2]
   unfold t65
   simp -implicitDefEqProofs only [b1,ae,hn1,ld0,e1,ld1',e2,hn2,hn3,s1,t1,hck,Bool.and_true,ax,Nat.zero_add,aj,fb1,az,beq_self_eq_true,ay,fb0,bR,Bool.not_false,sf,aE,if_true,ld5,u1]
   rw [hC1] at u2
   exact res_tc (rs:=Try.f65.results.toList) (n:=29) results65 (by decide) (by decide) ld118 _ u2
  |true=>
   rw [k0] at fb0 hact
   have hC0:dg (D.bJ 0) = [.bool true,.int .u64 ((ba (D.bJ 0):Nat):Int),ao (de (D.bJ 0))]:=by unfold dg;rw [k0,if_pos rfl]
   have l51:aV (ptr q3.next 1) q6=some (.int .u64 ((ba (D.bJ 1):Nat):Int),q6):=aJ t3 (by rw [hC1];rfl) rfl
   have l41:aV (ptr q2.next 1) q6=some (.int .u64 ((ba (D.bJ 0):Nat):Int),q6):=aJ g46 (by rw [hC0];rfl) rfl
   have hgt:bin Try.prog .gtr 58 (.int .u64 ((ba (D.bJ 1):Nat):Int)) (.int .u64 ((ba (D.bJ 0):Nat):Int))=some (.bool (decide (ba (D.bJ 0)<ba (D.bJ 1)))):=by
    rw [dB]
    exact congrArg (fun q=>some (Value.bool q)) (decide_eq_decide.2 (by omega))
   by_cases hg:ba (D.bJ 0)<ba (D.bJ 1)
   ·rw [if_pos ⟨rfl,.inr hg⟩] at hact
    simp only [Prod.mk.injEq] at hact
    obtain ⟨q7,u1,u2,u3⟩:=fin (dg (D.bJ 1)) (eO _) (gl _) (dW _)
    refine ⟨true,q7,aK is65 rfl ((t65_eq _ _ _).trans ?_),u3⟩
    rw [hact.1,hact.2.1,hact.2.2]
    unfold t65
    simp -implicitDefEqProofs only [b1,ae,hn1,ld0,e1,ld1',e2,hn2,hn3,s1,t1,hck,Bool.and_true,ax,Nat.zero_add,aj,fb1,az,beq_self_eq_true,ay,fb0,bR,Bool.not_true,Bool.false_eq_true,if_false,if_true,l51,l41,hgt,decide_eq_true hg,ld5,u1]
    rw [hC1] at u2
    exact res_tc (rs:=Try.f65.results.toList) (n:=29) results65 (by decide) (by decide) ld118 _ u2
   ·rw [if_neg (by rintro ⟨_,h|h⟩;cases h;exact hg h),if_pos rfl] at hact
    simp only [Prod.mk.injEq] at hact
    have ld4:=cz g46 (eO _) (dW _)
    obtain ⟨q7,u1,u2,u3⟩:=fin (dg (D.bJ 0)) (eO _) (gl _) (dW _)
    refine ⟨true,q7,aK is65 rfl ((t65_eq _ _ _).trans ?_),u3⟩
    rw [hact.1,hact.2.1,hact.2.2]
    unfold t65
    simp -implicitDefEqProofs only [b1,ae,hn1,ld0,e1,ld1',e2,hn2,hn3,s1,t1,hck,Bool.and_true,ax,Nat.zero_add,aj,fb1,az,beq_self_eq_true,ay,fb0,bR,Bool.not_true,Bool.false_eq_true,if_false,if_true,l51,l41,hgt,decide_eq_false hg,ld4,u1]
    rw [hC0] at u2
    exact res_tc (rs:=Try.f65.results.toList) (n:=29) results65 (by decide) (by decide) ld118 _ u2
end
end Go.Proofs.Ytcmfgmhadeeieaa

