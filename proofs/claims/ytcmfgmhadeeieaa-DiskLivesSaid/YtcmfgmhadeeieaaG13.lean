/-
  A part of the proof, spaces and names shortened by a program (a claim may hold 1,500,000 bytes).
  Conditions: as each theorem states.
-/
import Derived.Test.YtcmfgmhadeeieaaG12
namespace Go.Proofs.Ytcmfgmhadeeieaa
open Go Go.Abs
theorem X14:XX 14=s14:=rfl
theorem X18:XX 18=s18:=rfl
theorem X25:XX 25=s25:=rfl
theorem X32:XX 32=s32:=rfl
theorem X33:XX 33=s33:=rfl
theorem r14 (h:ah):CD 14 [] h=some (.bool true,h):=eO (by rw [X14];rfl)
theorem r18 (h:ah) {n:Nat} (h4:4≤n) (hn:n≤4096):CD 18 [aq n] h=some (.tuple #[ptr (h.next+1) 0,.int .i64 0],gR h n)∧bf (gR h n) (h.next+1) (Dk.new h n)∧Old h (gR h n):=by
 refine ⟨eO ?_,new_is h (by omega),new_kept h n _⟩
 rw [X18,s18_at (by omega),Int.toNat_natCast]
theorem new_fresh (h:ah) (n:Nat):Fresh (Dk.new h n):=by
 intro b hb
 have hb:b<n:=hb
 show ((List.replicate (128*n) 0).drop (b*128)).take 128=_
 rw [List.drop_replicate,List.take_replicate,Nat.min_eq_left (by omega)]
theorem r25 {h:ah} {d:Nat} {D:Dk} (x:bf h d D) : ∃ a c h',CD 25 [ptr d 0] h=some (.slice a (128*D.n) c,h')∧av a (128*D.n) h'=some D.aW∧cQ a (128*D.n) c=true∧(∀ y,a=some y→h.next≤y.block)∧Old h h':=by
 refine ⟨some ⟨h.next,0,none⟩,128*D.n,_,eO (by rw [X25,s25_at x];rfl),?_,?_,?_,Kept.alloc _ _ _⟩
 ·rw [c9 (l:=D.aW) (by rw [ah.aE,if_pos rfl]) (by rw [x.len];omega) x.byte,List.drop_zero,List.take_of_length_le (by rw [x.len];omega)]
 ·unfold cQ
  simp
 ·intro y hy
  cases hy
  exact Nat.le_refl _
theorem r32 {h:ah} {d:Nat} {D:Dk} (x:bf h d D):CD 32 [ptr d 0] h=some (.tuple #[],dh h d D.off)∧bf (dh h d D.off) d D.off∧dX d D.bb h (dh h d D.off):=by
 have hk:Okd D D.off:=by
  unfold Dk.off
  split
  ·exact ⟨rfl,rfl,rfl,x.byte,x.after,x.aC⟩
  ·exact ⟨rfl,rfl,rfl,x.byte,x.after,x.aC⟩
 refine ⟨eO ?_,x.put hk,putDk_only x hk.bb⟩
 rw [X32]
 unfold s32 ptr
 simp only [x.of]
theorem r33 {h:ah} {d:Nat} {D:Dk} (x:bf h d D):CD 33 [ptr d 0] h=some (.tuple #[],dh h d D.on)∧bf (dh h d D.on) d D.on∧dX d D.bb h (dh h d D.on):=by
 have hk:Okd D D.on:=⟨rfl,rfl,rfl,x.byte,x.after,x.aC⟩
 refine ⟨eO ?_,x.put hk,putDk_only x hk.bb⟩
 rw [X33]
 unfold s33 ptr
 simp only [x.of]
theorem RecsG.nil (h:ah) (F:Nat→Prop):RecsG h F (.slice none 0 0) []:=⟨none,0,rfl,fun i r hi=>by simp at hi⟩
theorem xt20 (a b:Value):aD (.tuple #[a,b]) 0=some a:=rfl
theorem xt21 (a b:Value):aD (.tuple #[a,b]) 1=some b:=rfl
theorem iD.new (D:Dk) (t:Int):iD (D.jn0 t) D:=⟨.inl rfl,by show (0:Nat)≤1;omega,by show (0:Nat)<_;omega,by show (0:Nat)<_;omega,fun h=>by cases h⟩
theorem cv8 {b n c:Nat} {g:ah} (h0:g.n0≤b) (h:(g.get b).isSome=true):convA Try.prog 32 32 (.slice (some ⟨b,0,none⟩) n c) g=some (.slice (some ⟨b,0,none⟩) n c,g):=by
 unfold convA
 simp only [Try.underlying32,Try.underlying5]
 rw [if_pos (by rw [decide_eq_true h0,h];rfl)]
end Go.Proofs.Ytcmfgmhadeeieaa

namespace Go.Proofs.Ytcmfgmhadeeieaa
open Go Go.Abs
def gy (h:ah) (v:Value) (vals:List (List Nat)) (sz o:Nat):Prop:=
 ∃ a c,v = .slice a vals.length c ∧ ∀ i r,vals[i]? = some r → ∃ b f s k ai ni ci,a=some ⟨b,f,s⟩∧h.get b=some k∧k[f+i*sz+o]? = some (.slice ai ni ci)∧av ai ni h=some r
theorem gy.bJ {h h':ah} {v:Value} {vals:List (List Nat)} {sz o:Nat} (R:gy h v vals sz o) (k:Old h h'):gy h' v vals sz o:=by
 obtain ⟨a,c,rfl,hR⟩:=R
 refine ⟨a,c,rfl,fun i r hi => ?_⟩
 obtain ⟨b,f,s,kk,ai,ni,ci,h1,h2,h3,h4⟩:=hR i r hi
 exact ⟨b,f,s,kk,ai,ni,ci,h1,Old.get k h2,h3,Old.bytes k h4⟩
theorem gy.at {h:ah} {v:Value} {vals:List (List Nat)} {sz o:Nat} (R:gy h v vals sz o) {i:Nat} {r:List Nat} (hi:vals[i]? = some r) :
  ∃ b p ai ni ci,cd sz v (aq i)=some (ptr b p)∧(∀ h',Old h h'→ba (ptr b (p+o)) h'=some (.slice ai ni ci,h'))∧av ai ni h=some r:=by
 obtain ⟨a,c,rfl,hR⟩:=R
 obtain ⟨b,f,s,kk,ai,ni,ci,rfl,h2,h3,h4⟩:=hR i r hi
 have hl:=(List.getElem?_eq_some_iff.1 hi).1
 refine ⟨b,f+i*sz,ai,ni,ci,?_,fun h' k=>aN (Old.get k h2) h3 rfl,h4⟩
 unfold cd
 simp only [aq]
 rw [if_pos (by omega),Int.toNat_natCast]
theorem gy.len {h:ah} {v:Value} {vals:List (List Nat)} {sz o:Nat} (R:gy h v vals sz o):cH v=some (aq vals.length):=by
 obtain ⟨a,c,rfl,hR⟩:=R
 rfl
theorem fx.S {h:ah} {v:Value} {vals:List (List Nat)} (R:fx h v vals):gy h v vals 1 0:=by
 obtain ⟨a,n,c,rfl,rfl,_,hR⟩:=R
 refine ⟨a,c,rfl,fun i r hi => ?_⟩
 have hl:=(List.getElem?_eq_some_iff.1 hi).1
 obtain ⟨b,off,s,k,rv,h1,h2,h3,h4,ai,ni,ci,rfl,h6,_⟩:=hR i hl
 rw [List.getD_eq_getElem?_getD,hi] at h6
 exact ⟨b,off,s,k,ai,ni,ci,h1,h2,by rw [Nat.mul_one];exact h3,h6⟩
def RecAt (h:ah) (N:Nat) (cells:List Value) (i:Nat) (r:List Nat):Prop:=
 ∃ a n c,cells[i]? = some (.slice a n c)∧av a n h=some r∧cQ a n c=true ∧ ∀ y,a=some y→0<n→N≤y.block
def cP (h:ah) (N:Nat) (cells:List Value) (vals:List (List Nat)):Prop:=cells.length=vals.length ∧ ∀ i r,vals[i]? = some r→RecAt h N cells i r
theorem cP.aC {h h':ah} {N:Nat} {cells:List Value} {vals:List (List Nat)} (E:cP h N cells vals) {B:Nat→Prop} (k:Kept h h' B) (hB : ∀ b,B b→dq h b):cP h' N cells vals:=by
 refine ⟨E.1,fun i e he => ?_⟩
 obtain ⟨a,n,c,h2,h3,h4,h5⟩:=E.2 i e he
 exact ⟨a,n,c,h2,k.ea hB h3,h4,h5⟩
theorem cP.nil (h:ah) (N:Nat):cP h N [] []:=⟨rfl,fun i e he=>by simp at he⟩
theorem cP.plain {h:ah} {N:Nat} {cells:List Value} {vals:List (List Nat)} (E:cP h N cells vals) : ∀ v∈cells,nat8 v=none:=by
 intro v hv
 obtain ⟨q,hq⟩:=List.getElem?_of_mem hv
 have hl:=(List.getElem?_eq_some_iff.1 hq).1
 rw [E.1] at hl
 obtain ⟨a,n,c,h2,_⟩:=E.2 q vals[q] (List.getElem?_eq_getElem hl)
 rw [hq] at h2;cases h2;rfl
theorem cP.append {h:ah} {N:Nat} {cells cells':List Value} {vals vals':List (List Nat)} (E:cP h N cells vals) (E':cP h N cells' vals'):cP h N (cells++cells') (vals++vals'):=by
 refine ⟨by simp [E.1,E'.1],fun i e he => ?_⟩
 have hl:=E.1
 by_cases hi:i<vals.length
 ·rw [List.getElem?_append_left hi] at he
  obtain ⟨a,n,c,h2,h3⟩:=E.2 i e he
  exact ⟨a,n,c,by rw [List.getElem?_append_left (by omega)];exact h2,h3⟩
 ·rw [List.getElem?_append_right (by omega)] at he
  obtain ⟨a,n,c,h2,h3⟩:=E'.2 _ e he
  exact ⟨a,n,c,by rw [List.getElem?_append_right (by omega),hl];exact h2,h3⟩
theorem cP.one {h:ah} {N:Nat} {l:List Nat} {a:Option Addr} {n c:Nat} (hs:av a n h=some l) (hg:cQ a n c=true) (ha : ∀ y,a=some y→0<n→N≤y.block):cP h N [.slice a n c] [l]:=by
 refine ⟨rfl,fun i e he => ?_⟩
 match i with
 | 0=>cases he;exact ⟨a,n,c,rfl,hs,hg,ha⟩
 |i+1=>simp at he
theorem cP.low {h:ah} {N M:Nat} {cells:List Value} {vals:List (List Nat)} (E:cP h N cells vals) (hM:M≤N):cP h M cells vals:=by
 refine ⟨E.1,fun i e he => ?_⟩
 obtain ⟨a,n,c,h2,h3,h4,h5⟩:=E.2 i e he
 exact ⟨a,n,c,h2,h3,h4,fun y hy hn=>Nat.le_trans hM (h5 y hy hn)⟩
theorem cP.S {h:ah} {N N':Nat} {v:Value} {cells:List Value} {vals:List (List Nat)} (E:cP h N' cells vals) (o:cw h N 1 v vals.length cells):gy h v vals 1 0:=by
 obtain ⟨_,_,_,⟨rfl,h4⟩|⟨b,s,rfl,h5,⟨rfl,h4⟩|⟨rfl,h6⟩⟩⟩:=o
 ·exact ⟨none,0,by rw [h4],fun i r hi=>by have:=(List.getElem?_eq_some_iff.1 hi).1;omega⟩
 ·exact ⟨_,_,rfl,fun i r hi=>by have:=(List.getElem?_eq_some_iff.1 hi).1;omega⟩
 ·refine ⟨_,_,rfl,fun i r hi => ?_⟩
  obtain ⟨a,n,c,h2,h3,_⟩:=E.2 i r hi
  exact ⟨b,0,_,cells,a,n,c,rfl,h6,by rw [Nat.zero_add,Nat.mul_one];exact h2,h3⟩
theorem cP.G {h:ah} {N N':Nat} {v:Value} {cells:List Value} {vals:List (List Nat)} (E:cP h N' cells vals) (o:cw h N 1 v vals.length cells) {F:Nat→Prop} (hF : ∀ b,N≤b → ¬F b) (hF' : ∀ b,N'≤b → ¬F b):RecsG h F v vals:=by
 obtain ⟨_,_,_,⟨rfl,h4⟩|⟨b,s,rfl,h5,⟨rfl,h4⟩|⟨rfl,h6⟩⟩⟩:=o
 ·exact ⟨none,0,by rw [h4],fun i r hi=>by have:=(List.getElem?_eq_some_iff.1 hi).1;omega⟩
 ·exact ⟨_,_,rfl,fun i r hi=>by have:=(List.getElem?_eq_some_iff.1 hi).1;omega⟩
 ·refine ⟨_,_,rfl,fun i r hi => ?_⟩
  obtain ⟨a,n,c,h2,h3,h4,h5'⟩:=E.2 i r hi
  exact ⟨b,0,_,cells,a,n,c,rfl,h6,hF b h5,by rw [Nat.zero_add];exact h2,h3,h4,fun y hy hn=>hF' _ (h5' y hy hn)⟩
theorem dK.S {h:ah} {N N':Nat} {v:Value} {cells:List Value} {dC:List (Nat×List Nat)} (E:dK h N' cells dC) (o:cw h N 2 v dC.length cells):gy h v (dC.map (·.2)) 2 1:=by
 obtain ⟨_,_,_,⟨rfl,h4⟩|⟨b,s,rfl,h5,⟨rfl,h4⟩|⟨rfl,h6⟩⟩⟩:=o
 ·exact ⟨none,0,by rw [List.length_map,h4],fun i r hi=>by have:=(List.getElem?_eq_some_iff.1 hi).1;rw [List.length_map] at this;omega⟩
 ·exact ⟨_,_,by rw [List.length_map],fun i r hi=>by have:=(List.getElem?_eq_some_iff.1 hi).1;rw [List.length_map] at this;omega⟩
 ·refine ⟨_,_,by rw [List.length_map],fun i r hi => ?_⟩
  rw [List.getElem?_map,Option.map_eq_some_iff] at hi
  obtain ⟨e,he,rfl⟩:=hi
  obtain ⟨_,a,n,c,h2,h3,_⟩:=E.2 i e he
  exact ⟨b,0,_,cells,a,n,c,rfl,h6,by rw [Nat.zero_add,Nat.mul_comm];exact h2,h3⟩
theorem copy_step {h0 g:ah} {w:Value} {cells:List Value} {done:List (List Nat)} {r:List Nat} {a:Option Addr} {n c:Nat} (own:cw g h0.next 1 w done.length cells) (E:cP g h0.next cells done) (hold:Old h0 g)
  (hs:av a n g=some r) (hr:r.length≤100000) (hd:done.length≤1000000) :
  ∃ v1 g1 g2 b2 v3 g3 cells',bo 1 1 (.slice (some ⟨g.next,0,none⟩) 0 0) (.slice a n c) (g.alloc [])=some (v1,g1)∧cX 1 (.slice none 0 0) 1 [(0,v1)] g1=some (.slice (some ⟨b2,0,none⟩) 1 1,g2) ∧
    bo 1 24 w (.slice (some ⟨b2,0,none⟩) 1 1) g2=some (v3,g3)∧cw g3 h0.next 1 v3 (done ++ [r]).length cells'∧cP g3 h0.next cells' (done ++ [r])∧Old h0 g3:=by
 have hn:=(aw hs).1
 have hN:h0.next≤g.next:=hold.next
 have oA:Old g (g.alloc []):=Kept.alloc _ _ _
 have nA:(g.alloc []).next=g.next+1:=ah.aS ..
 have oA0:Old h0 (g.alloc []):=hold.trans oA
 have own0:dr (g.alloc []) g.next (.slice (some ⟨g.next,0,none⟩) 0 0) []:=⟨cw.empty _ (Nat.le_refl _),by simp⟩
 obtain ⟨v1,g1,e1,b1,k1,_⟩:=dI own0 (by rw [oA.n0];exact g.aH) (by omega) (Old.bytes oA hs) (c:=c) (by simp only [List.length_nil];omega)
 rw [List.nil_append] at b1
 have k1':Old g g1:=oA.bS k1 (fun c hc hb=>by
  have:cF (.slice (some ⟨g.next,0,none⟩) 0 0)=some g.next:=rfl
  rw [this] at hb
  cases hb
  omega)
 obtain ⟨a1,c1,rfl,s1,t1,u1,_⟩:=b1.bytes
 have hlit:cX 1 (.slice none 0 0) 1 [(0,.slice a1 r.length c1)] g1=some (.slice (some ⟨g1.next,0,none⟩) 1 1,g1.alloc [.slice a1 r.length c1]):=rfl
 have oB:Old g1 (g1.alloc [.slice a1 r.length c1]):=Kept.alloc _ _ _
 have oB0:Old h0 (g1.alloc [.slice a1 r.length c1]):=(hold.trans k1').trans oB
 have gB:(g1.alloc [.slice a1 r.length c1]).get g1.next=some [.slice a1 r.length c1]:=by rw [ah.aE,if_pos rfl]
 have ownB:=(own.aC k1' (fun _ _ h=>h)).aC oB (fun _ _ h=>h)
 have EB:=(E.aC k1' (fun _ h=>h.elim)).aC oB (fun _ h=>h.elim)
 have sB:=Old.bytes oB s1
 generalize g1.alloc [.slice a1 r.length c1]=gB1 at *
 have hfB:bW 1 1 (.slice (some ⟨g1.next,0,none⟩) 1 1) gB1=some [.slice a1 r.length c1]:=by
  simp only [bW,gB]
  rfl
 obtain ⟨v3,g3,f1,f2,f3,f4⟩:=im (by_:=24) (x := .slice (some ⟨g1.next,0,none⟩) 1 1) (m:=1) ownB (by rw [oB0.n0];exact h0.aH) oB0.next (by decide) rfl hfB rfl rfl rfl (by omega) (by omega)
 have pl : ∀ b,cF w=some b∧gB1.get b=some cells→dq gB1 b:=fun b hb=>⟨cells,hb.2,EB.plain⟩
 refine ⟨_,g1,gB1,g1.next,v3,g3,cells ++ [.slice a1 r.length c1],e1,hlit,f1,by rw [List.length_append];exact f2,?_,?_⟩
 ·exact (EB.aC f3 pl).append (cP.one (f3.ea pl sB) t1 (fun y hy _=>Nat.le_trans hN (u1 y hy)))
 ·exact oB0.bS f3 (fun c hc hb=>by have:=ownB.base hb.1;omega)
theorem is24:cA Try.prog 24 Try.f24:=⟨by kernel_rfl,by kernel_rfl,by kernel_rfl,by kernel_rfl⟩
theorem is29:cA Try.prog 29 Try.f29:=⟨by kernel_rfl,by kernel_rfl,by kernel_rfl,by kernel_rfl⟩
theorem is30:cA Try.prog 30 Try.f30:=⟨by kernel_rfl,by kernel_rfl,by kernel_rfl,by kernel_rfl⟩
def ownInv (h0:ah) (v:Value) (vals:List (List Nat)) (k:Nat) (y:Nat→Value) (g:ah):Prop:=
 ∃ i cells,i+k=vals.length∧y 0=v∧y 4=aq i∧cw g h0.next 1 (y 3) i cells∧cP g h0.next cells (vals.take i)∧Old h0 g
def ownFin (h0:ah) (vals:List (List Nat)) (ex:Ex) (y:Nat→Value) (g:ah):Prop:=
 ex = .exit 0 ∧ ∃ cells,cw g h0.next 1 (y 3) vals.length cells∧cP g h0.next cells vals∧Old h0 g
theorem take_snoc {vals:List (List Nat)} {i:Nat} (h:i<vals.length):vals.take (i+1)=vals.take i ++ [vals[i]]:=by
 rw [List.take_add_one,List.getElem?_eq_getElem h];rfl
section
variable {h0:ah} {v:Value} {vals:List (List Nat)}
theorem own_round (R:gy h0 v vals 1 0) (hlen:vals.length≤100000) (h21 : ∀ r∈vals,r.length≤100000) : ∀ k y g,ownInv h0 v vals k y g→cY 22 (ownInv h0 v vals) (ownFin h0 vals) k (t24l24_11010 CD y g):=by
 rintro k y g ⟨i,cells,hik,y0,y4,own,E,hold⟩
 have hll:=R.len
 unfold t24l24_11010
 simp -implicitDefEqProofs only [y4,y0,af,hll,aj,fT]
 by_cases hlt:i<vals.length
 ·obtain ⟨q,rfl⟩ : ∃ q,k=q+1:=⟨k-1,by omega⟩
  have hbs:cX 1 (.int .u8 0) 0 [] g=some (.slice (some ⟨g.next,0,none⟩) 0 0,g.alloc []):=rfl
  obtain ⟨b,p,ai,ni,ci,hix,hld,hs⟩:=(R.bJ hold).at (List.getElem?_eq_getElem hlt)
  have hld:=hld _ (Kept.alloc g [] _)
  rw [Nat.add_zero] at hld
  have hti:(vals.take i).length=i:=by rw [List.length_take];omega
  obtain ⟨v1,g1,g2,b2,v3,g3,cells',e1,e2,e3,o3,E3,hold3⟩:=copy_step (h0:=h0) (w:=y 3) (done:=vals.take i) (c:=ci) (by rw [hti];exact own) E hold hs (h21 _ (List.getElem_mem hlt)) (by omega)
  simp -implicitDefEqProofs only [decide_eq_true hlt,hbs,af,hix,hld,e1,e2,e3,aj,ef (show i+1≤9223372036854775807 by omega)]
  refine cY.next q (by omega) ⟨i+1,cells',by omega,y0,rfl,?_,?_,hold3⟩
  ·rw [List.length_append,hti] at o3
   exact o3
  ·rw [take_snoc hlt];exact E3
 ·have hi:i=vals.length:=by omega
  subst hi
  rw [List.take_length] at E
  simp -implicitDefEqProofs only [decide_eq_false hlt]
  exact cY.out 0 ⟨rfl,cells,own,E,hold⟩
theorem r24 (R:gy h0 v vals 1 0) (hlen:vals.length≤100000) (h21 : ∀ r∈vals,r.length≤100000) : ∃ v' cells h',CD 24 [v] h0=some (v',h')∧cw h' h0.next 1 v' vals.length cells∧cP h' h0.next cells vals∧Old h0 h':=by
 have key : ∃ v' cells h',t24 CD v h0=some (v',h')∧cw h' h0.next 1 v' vals.length cells∧cP h' h0.next cells vals∧Old h0 h':=by
  unfold t24
  have hbs:cX 1 (.slice none 0 0) 0 [] h0=some (.slice (some ⟨h0.next,0,none⟩) 0 0,h0.alloc []):=rfl
  simp -implicitDefEqProofs only [hbs,af]
  refine cn (Q:=fun o:Out => ∃ v' cells h',o=some (v',h')∧cw h' h0.next 1 v' vals.length cells∧cP h' h0.next cells vals∧Old h0 h')
   (cg (t24l24_11010_eq CD) (own_round R hlen h21) vals.length (by have:rounds=18446744073709551616:=rfl;omega)
    ⟨0,[],Nat.zero_add _,rfl,rfl,cw.empty _ (Nat.le_refl _),cP.nil _ _,Kept.alloc _ _ _⟩) ?_
  rintro ex z g ⟨rfl,cells,own,E,hold⟩
  simp -implicitDefEqProofs only [bA,b24_4,if_true,t24k24_2_eq]
  unfold t24k24_2
  simp -implicitDefEqProofs only [af]
  exact ⟨_,cells,g,rfl,own,E,hold⟩
 obtain ⟨v',cells,h',e,f⟩:=key
 exact ⟨v',cells,h',aO is24 rfl ((t24_eq _ _ _).trans e),f⟩
theorem datas_round (R:gy h0 v vals 2 1) (hlen:vals.length≤100000) (h21 : ∀ r∈vals,r.length≤100000) : ∀ k y g,ownInv h0 v vals k y g→cY 23 (ownInv h0 v vals) (ownFin h0 vals) k (iI CD y g):=by
 rintro k y g ⟨i,cells,hik,y0,y4,own,E,hold⟩
 have hll:=R.len
 unfold iI
 simp -implicitDefEqProofs only [y4,y0,af,hll,aj,fT]
 by_cases hlt:i<vals.length
 ·obtain ⟨q,rfl⟩ : ∃ q,k=q+1:=⟨k-1,by omega⟩
  have hbs:cX 1 (.int .u8 0) 0 [] g=some (.slice (some ⟨g.next,0,none⟩) 0 0,g.alloc []):=rfl
  obtain ⟨b,p,ai,ni,ci,hix,hld,hs⟩:=(R.bJ hold).at (List.getElem?_eq_getElem hlt)
  have hld:=hld _ (Kept.alloc g [] _)
  have hti:(vals.take i).length=i:=by rw [List.length_take];omega
  obtain ⟨v1,g1,g2,b2,v3,g3,cells',e1,e2,e3,o3,E3,hold3⟩:=copy_step (h0:=h0) (w:=y 3) (done:=vals.take i) (c:=ci) (by rw [hti];exact own) E hold hs (h21 _ (List.getElem_mem hlt)) (by omega)
  simp -implicitDefEqProofs only [decide_eq_true hlt,hbs,af,hix,ax,hld,e1,e2,e3,aj,ef (show i+1≤9223372036854775807 by omega)]
  refine cY.next q (by omega) ⟨i+1,cells',by omega,y0,rfl,?_,?_,hold3⟩
  ·rw [List.length_append,hti] at o3
   exact o3
  ·rw [take_snoc hlt];exact E3
 ·have hi:i=vals.length:=by omega
  subst hi
  rw [List.take_length] at E
  simp -implicitDefEqProofs only [decide_eq_false hlt]
  exact cY.out 0 ⟨rfl,cells,own,E,hold⟩
theorem r30 (R:gy h0 v vals 2 1) (hlen:vals.length≤100000) (h21 : ∀ r∈vals,r.length≤100000) : ∃ v' cells h',CD 30 [v] h0=some (v',h')∧cw h' h0.next 1 v' vals.length cells∧cP h' h0.next cells vals∧Old h0 h':=by
 have key : ∃ v' cells h',t30 CD v h0=some (v',h')∧cw h' h0.next 1 v' vals.length cells∧cP h' h0.next cells vals∧Old h0 h':=by
  unfold t30
  have hbs:cX 1 (.slice none 0 0) 0 [] h0=some (.slice (some ⟨h0.next,0,none⟩) 0 0,h0.alloc []):=rfl
  simp -implicitDefEqProofs only [hbs,af]
  refine cn (Q:=fun o:Out => ∃ v' cells h',o=some (v',h')∧cw h' h0.next 1 v' vals.length cells∧cP h' h0.next cells vals∧Old h0 h')
   (cg (t30l30_11010_eq CD) (datas_round R hlen h21) vals.length (by have:rounds=18446744073709551616:=rfl;omega)
    ⟨0,[],Nat.zero_add _,rfl,rfl,cw.empty _ (Nat.le_refl _),cP.nil _ _,Kept.alloc _ _ _⟩) ?_
  rintro ex z g ⟨rfl,cells,own,E,hold⟩
  simp -implicitDefEqProofs only [bA,b30_4,if_true,t30k30_2_eq]
  unfold t30k30_2
  simp -implicitDefEqProofs only [af]
  exact ⟨_,cells,g,rfl,own,E,hold⟩
 obtain ⟨v',cells,h',e,f⟩:=key
 exact ⟨v',cells,h',aO is30 rfl ((t30_eq _ _ _).trans e),f⟩
end
theorem strOf_inj {a b:List Nat} (ha : ∀ x∈a,x<256) (hb : ∀ x∈b,x<256):((strOf a).toList==(strOf b).toList)=decide (a=b):=by
 have hl : ∀ l:List Nat,(strOf l).toList=l.map UInt8.ofNat:=fun l=>Go.ByteArray.toList_mk _
 have hinj : ∀ a b:List Nat,(∀ x∈a,x<256)→(∀ x∈b,x<256)→a.map UInt8.ofNat=b.map UInt8.ofNat→a=b:=by
  intro a
  induction a with
  |nil=>intro b _ _ h;simpa using h.symm
  |cons x a ih=>
   intro b ha hb h
   match b with
   | []=>simp at h
   |y::b=>
    rw [List.map_cons,List.map_cons,List.cons.injEq] at h
    have hx:=ha x List.mem_cons_self
    have hy:=hb y List.mem_cons_self
    have e:x=y:=by
     have:=congrArg UInt8.toNat h.1
     rw [UInt8.toNat_ofNat',UInt8.toNat_ofNat'] at this
     omega
    rw [e,ih b (fun z hz=>ha z (List.mem_cons_of_mem _ hz)) (fun z hz=>hb z (List.mem_cons_of_mem _ hz)) h.2]
 rw [hl,hl]
 by_cases e:a=b
 ·rw [decide_eq_true e,e];exact beq_self_eq_true _
 ·rw [decide_eq_false e,beq_eq_false_iff_ne]
  exact fun h=>e (hinj a b ha hb h)
section
variable {h0:ah} {v w:Value} {la lb:List (List Nat)}
def sameInv (h0:ah) (v w:Value) (la lb:List (List Nat)) (k:Nat) (y:Nat→Value) (g:ah):Prop:=
 ∃ i,i+k=la.length∧y 0=v∧y 1=w∧y 5=aq i∧g=h0∧la.take i=lb.take i
def sameFin (h0:ah) (la lb:List (List Nat)) (ex:Ex) (y:Nat→Value) (g:ah):Prop:=
 g=h0∧((ex = .ret∧y 4 = .bool false∧la≠lb)∨(ex = .exit 0∧la=lb))
theorem same_round (R:gy h0 v la 1 0) (S:gy h0 w lb 1 0) (hll:la.length=lb.length) (hlen:la.length≤100000) : ∀ k y g,sameInv h0 v w la lb k y g→cY 28 (sameInv h0 v w la lb) (sameFin h0 la lb) k (t29l29_11010 CD y g):=by
 rintro k y g ⟨i,hik,y0,y1,y5,rfl,ht⟩
 have hl:=R.len
 unfold t29l29_11010
 simp -implicitDefEqProofs only [y5,y0,af,hl,aj,fT]
 by_cases hlt:i<la.length
 ·obtain ⟨q,rfl⟩ : ∃ q,k=q+1:=⟨k-1,by omega⟩
  have hlt2:i<lb.length:=by omega
  obtain ⟨b,p,ai,ni,ci,hix,hld,hs⟩:=R.at (List.getElem?_eq_getElem hlt)
  obtain ⟨b',p',ai',ni',ci',hix',hld',hs'⟩:=S.at (List.getElem?_eq_getElem hlt2)
  have hld:=hld _ (Kept.refl _ _)
  have hld':=hld' _ (Kept.refl _ _)
  rw [Nat.add_zero] at hld hld'
  have cv:=iO (c:=ci) hs
  have cv':=iO (c:=ci') hs'
  simp -implicitDefEqProofs only [decide_eq_true hlt,hix,af,hld,cv,y1,hix',hld',cv',aj,bin_str_neq,strOf_inj (aw hs).2.1 (aw hs').2.1]
  by_cases he:la[i]=lb[i]
  ·simp -implicitDefEqProofs only [decide_eq_true he,Bool.not_true,af,ef (show i+1≤9223372036854775807 by omega),aj]
   exact cY.next q (by omega) ⟨i+1,by omega,y0,y1,rfl,rfl,by rw [take_snoc hlt,take_snoc hlt2,ht,he]⟩
  ·simp -implicitDefEqProofs only [decide_eq_false he,Bool.not_false,af]
   exact cY.ret ⟨rfl,.inl ⟨rfl,rfl,fun h=>he (by subst h;rfl)⟩⟩
 ·have hi:i=la.length:=by omega
  subst hi
  rw [List.take_length,hll,List.take_length] at ht
  simp -implicitDefEqProofs only [decide_eq_false hlt]
  exact cY.out 0 ⟨rfl,.inr ⟨rfl,ht⟩⟩
theorem r29 (R:gy h0 v la 1 0) (S:gy h0 w lb 1 0) (hlen:la.length≤100000):CD 29 [v,w] h0=some (.bool (decide (la=lb)),h0):=by
 refine aO is29 rfl ((t29_eq _ _ _ _).trans ?_)
 unfold t29
 simp -implicitDefEqProofs only [af,R.len,S.len,aj,bin3n]
 by_cases hll:la.length=lb.length
 ·have hb:(la.length==lb.length)=true:=by rw [hll];exact beq_self_eq_true _
  simp -implicitDefEqProofs only [hb,Bool.not_true,af]
  refine cn (Q:=fun o:Out=>o=some (Value.bool (decide (la=lb)),h0)) (cg (t29l29_11010_eq CD) (same_round R S hll hlen) la.length (by have:rounds=18446744073709551616:=rfl;omega)
   ⟨0,Nat.zero_add _,rfl,rfl,rfl,rfl,rfl⟩) ?_
  rintro ex z g ⟨rfl,⟨rfl,z4,hne⟩|⟨rfl,he⟩⟩
  ·rw [iG,res_one (t:=4) (by kernel_rfl) (by decide),z4,decide_eq_false hne]
  ·simp -implicitDefEqProofs only [bA,b29_6,if_true,t29k29_4_eq]
   unfold t29k29_4
   rw [af,decide_eq_true he]
 ·have hb:(la.length==lb.length)=false:=beq_eq_false_iff_ne.2 hll
  simp -implicitDefEqProofs only [hb,Bool.not_false,af]
  rw [decide_eq_false (fun h=>hll (by rw [h]))]
end
end Go.Proofs.Ytcmfgmhadeeieaa

namespace Go.Proofs.Ytcmfgmhadeeieaa
open Go Go.Abs
theorem be_inj : ∀ {a b:List Nat},a.length=b.length→(∀ x∈a,x<256)→(∀ x∈b,x<256)→be a=be b→a=b
 | [],[],_,_,_,_=>rfl
 |x::a,y::b,hl',ha,hb,h=>by
  have hl:a.length=b.length:=by simpa using hl'
  clear hl'
  rw [be_cons,be_cons,hl] at h
  have h1:be a<256^b.length:=be_lt _ a hl (fun z hz=>ha z (List.mem_cons_of_mem _ hz))
  have h2:be b<256^b.length:=be_lt _ b rfl (fun z hz=>hb z (List.mem_cons_of_mem _ hz))
  have hp:0<256^b.length:=Nat.pow_pos (by decide)
  have e1:x=y:=by
   have:=congrArg (· / 256^b.length) h
   simp only [Nat.mul_comm _ (256^b.length),Nat.mul_add_div hp,Nat.div_eq_of_lt h1,Nat.div_eq_of_lt h2] at this
   omega
  subst e1
  have h3:be a=be b:=by omega
  rw [be_inj (a:=a) (b:=b) hl (fun z hz=>ha z (List.mem_cons_of_mem _ hz)) (fun z hz=>hb z (List.mem_cons_of_mem _ hz)) h3]
 | [],_::_,hl,_,_,_=>by simp at hl
 |_::_,[],hl,_,_,_=>by simp at hl
end Go.Proofs.Ytcmfgmhadeeieaa

namespace Go.Proofs.Ytcmfgmhadeeieaa
open Go Go.Abs
theorem right_logOk {at_:Nat} {b:List Nat} (h:right b=false):db at_ b=false:=by unfold db;rw [h];rfl
theorem hides {D:Dk} {ak gen at_:Nat} {r:List Nat} (hg:gen<18446744073709551616) (hr:r.length≤20000) (hb : ∀ x∈r,x<256) (hfit:at_+aQ r.length≤D.ar) (har:D.ar≤4096) {i:Nat} (hi:i<aQ r.length) (hbad:right (D.jb ak (at_+i))=false)
  (hrest : ∀ j,j<aQ r.length→j≠i→D.jb ak (at_+j)=cS gen (at_+j) j (aQ r.length) (chunk r j)) : ∀ j,j<aQ r.length→D.bg ak gen (at_+j)=false:=by
 intro j hj
 have hc:=fj (n:=r.length) (by omega)
 by_cases hji:j=i
 ·subst hji
  exact Dk.noB.bg (.inl (right_logOk hbad))
 by_cases hj0:j=0
 ·subst hj0
  rw [Nat.add_zero]
  have h0:=hrest 0 hj hji
  rw [Nat.add_zero] at h0
  have hp:D.parts ak at_=aQ r.length:=by
   unfold Dk.parts
   rw [h0,iH (by omega)]
  refine Dk.not_stands (i:=i) (by rw [hp];exact hi) ?_
  unfold Dk.part
  rw [right_logOk hbad];rfl
 ·refine Dk.noB.bg (.inr (.inr ?_))
  rw [hrest j hj hji,logPart_log (by omega)]
  exact hj0
theorem Dk.blk_len {D:Dk} (hlen:D.aW.length=128*D.n) {i:Nat} (hi:i<D.n):(D.aX i).length=128:=by
 unfold Dk.aX
 rw [List.length_take,List.length_drop]
 omega
end Go.Proofs.Ytcmfgmhadeeieaa

namespace Go.Proofs.Ytcmfgmhadeeieaa
open Go Go.Abs
theorem BytesV.bJ {h h':ah} {v:Value} {l:List Nat} (x:BytesV h v l) (k:Old h h'):BytesV h' v l:=by
 obtain ⟨a,n,c,rfl,h1,h2⟩:=x
 exact ⟨a,n,c,rfl,Old.bytes k h1,h2⟩
theorem fx.bJ {h h':ah} {v:Value} {vals:List (List Nat)} (x:fx h v vals) (k:Old h h'):fx h' v vals:=by
 obtain ⟨a,n,c,rfl,h1,h2,h3⟩:=x
 refine ⟨a,n,c,rfl,h1,h2,fun i hi => ?_⟩
 obtain ⟨b,off,s,kk,rv,e1,e2,e3,e4,e5⟩:=h3 i hi
 exact ⟨b,off,s,kk,rv,e1,Old.get k e2,e3,e4,e5.bJ k⟩
theorem fx.byte {h:ah} {v:Value} {vals:List (List Nat)} (x:fx h v vals) : ∀ r∈vals,∀ y∈r,y<256:=by
 intro r hr
 obtain ⟨i,hi⟩:=List.getElem?_of_mem hr
 obtain ⟨a,n,c,rfl,h1,h2,h3⟩:=x
 obtain ⟨b,off,s,kk,rv,e1,e2,e3,e4,a',n',c',_,e5,_⟩:=h3 i (by have:=(List.getElem?_eq_some_iff.1 hi).1;omega)
 rw [List.getD_eq_getElem?_getD,hi] at e5
 exact (aw e5).2.1
def RecsI (h:ah) (v:Value) (vals:List (List Nat)):Prop:=fx h v vals ∧ ∃ a n c,v = .slice a n c∧n≤c ∧ ∀ y,a=some y→0<n→y.spot=none
theorem RecsI.bJ {h h':ah} {v:Value} {vals:List (List Nat)} (x:RecsI h v vals) (k:Old h h'):RecsI h' v vals:=⟨x.1.bJ k,x.2⟩
theorem RecsI.S {h:ah} {v:Value} {vals:List (List Nat)} (x:RecsI h v vals):gy h v vals 1 0:=x.1.S
theorem RecsI.to {h:ah} {v:Value} {vals:List (List Nat)} (x:RecsI h v vals) (h0:0<vals.length) {k:Nat} (hk:k≤vals.length) : ∃ v',slR 1 v none (some (aq k)) none=some v'∧gy h v' (vals.take k) 1 0:=by
 obtain ⟨hV,a,n,c,rfl,hnc,hsp⟩:=x
 obtain ⟨a',c',e,hS⟩:=hV.S
 cases e
 obtain ⟨b,f,s,kk,ai,ni,ci,rfl,_⟩:=hS 0 _ (List.getElem?_eq_getElem h0)
 have:s=none:=hsp _ rfl h0
 subst this
 have hb:dF vals.length c none (some (aq k)) none=some (0,k,c):=by
  unfold dF
  simp only [bZ,aq]
  rw [if_pos (by omega),Int.toNat_natCast]
 refine ⟨.slice (some ⟨b,if c=0 then f else f+0*1,none⟩) (k-0) (c-0),?_,?_⟩
 ·unfold slR fh
  simp only [hb]
 ·refine ⟨_,_,by rw [List.length_take,Nat.min_eq_left hk,Nat.sub_zero],fun i r hi => ?_⟩
  rw [List.getElem?_take] at hi
  split at hi
  ·obtain ⟨b',f',s',k2,ai',ni',ci',e,r1,r2,r3⟩:=hS i r hi
   cases e
   exact ⟨b,_,none,k2,ai',ni',ci',rfl,r1,by rw [show (if c=0 then f else f+0*1)=f by split<;>omega];exact r2,r3⟩
  ·cases hi
theorem RecsI.from {h:ah} {v:Value} {vals:List (List Nat)} (x:RecsI h v vals) (h0:0<vals.length) {k:Nat} (hk:k≤vals.length) : ∃ v',slR 1 v (some (aq k)) none none=some v'∧gy h v' (vals.drop k) 1 0:=by
 obtain ⟨hV,a,n,c,rfl,hnc,hsp⟩:=x
 obtain ⟨a',c',e,hS⟩:=hV.S
 cases e
 obtain ⟨b,f,s,kk,ai,ni,ci,rfl,_⟩:=hS 0 _ (List.getElem?_eq_getElem h0)
 have:s=none:=hsp _ rfl h0
 subst this
 have hb:dF vals.length c (some (aq k)) none none=some (k,vals.length,c):=by
  unfold dF
  simp only [bZ,aq]
  rw [if_pos (by omega),Int.toNat_natCast]
 refine ⟨.slice (some ⟨b,if c=k then f else f+k*1,none⟩) (vals.length-k) (c-k),?_,?_⟩
 ·unfold slR fh
  simp only [hb]
 ·refine ⟨_,_,by rw [List.length_drop],fun i r hi => ?_⟩
  rw [List.getElem?_drop] at hi
  have hl:=(List.getElem?_eq_some_iff.1 hi).1
  obtain ⟨b',f',s',k2,ai',ni',ci',e,r1,r2,r3⟩:=hS _ r hi
  cases e
  refine ⟨b,_,none,k2,ai',ni',ci',rfl,r1,?_,r3⟩
  rw [if_neg (by omega),show f+k*1+i*1+0=f+(k+i)*1+0 by omega]
  exact r2
theorem X17:XX 17=s17:=rfl
theorem r17 {h:ah} {v:Value} {vals:List (List Nat)} (x:fx h v vals) (n:Int) :
  fU [(.int .i64 0),(.int .i64 0),(.int .i64 0),(.int .u8 0),(.slice none 0 0),(.slice none 0 0)] [(5,1,v)]=some (.agg #[.int .i64 0,.int .i64 0,.int .i64 0,.int .u8 0,.slice none 0 0,v]) ∧
  cX 6 (.agg #[(.int .i64 0),(.int .i64 0),(.int .i64 0),(.int .u8 0),(.slice none 0 0),(.slice none 0 0)]) 1 [(0,.agg #[.int .i64 0,.int .i64 0,.int .i64 0,.int .u8 0,.slice none 0 0,v])] h=some (.slice (some ⟨h.next,0,none⟩) 1 1,h.alloc [.int .i64 0,.int .i64 0,.int .i64 0,.int .u8 0,.slice none 0 0,v]) ∧
  CD 17 [.int .i64 n,.slice (some ⟨h.next,0,none⟩) 1 1] (h.alloc [.int .i64 0,.int .i64 0,.int .i64 0,.int .u8 0,.slice none 0 0,v])=some (.bool (decide (64<n)&&decide (n≤4096)||(decide (40<vals.length)||vals.any fun r=>decide (21000<r.length))),h.alloc [.int .i64 0,.int .i64 0,.int .i64 0,.int .u8 0,.slice none 0 0,v]):=by
 have xA:=x.bJ (Kept.alloc h [.int .i64 0,.int .i64 0,.int .i64 0,.int .u8 0,.slice none 0 0,v] _)
 obtain ⟨a,m,c,rfl,h1,h2,h3⟩:=x
 refine ⟨rfl,rfl,eO ?_⟩
 have hO:iC (h.alloc [.int .i64 0,.int .i64 0,.int .i64 0,.int .u8 0,.slice none 0 0,.slice a m c]) (.slice (some ⟨h.next,0,none⟩) 1 1) [⟨0,0,0,0,[],vals⟩]:=by
  refine ⟨_,1,1,rfl,rfl,by decide,fun i hi => ?_⟩
  obtain rfl:i=0:=by omega
  exact ⟨h.next,0,none,_,rfl,by rw [ah.aE,if_pos rfl],_,rfl,rfl,rfl,rfl,rfl,⟨_,rfl,rfl,none,0,0,rfl,rfl,Nat.zero_le _,.inl rfl⟩,⟨_,rfl,rfl,xA⟩,⟨rfl,rfl,rfl,by show (0:Nat)<256;omega⟩⟩
 rw [X17,s17_at n hO]
 have hb:heavyB n [⟨0,0,0,0,[],vals⟩]=(decide (64<n)&&decide (n≤4096)||(decide (40<vals.length)||vals.any fun r=>decide (21000<r.length))):=by
  unfold heavyB hY
  simp
 rw [hb]
theorem cw.at {h:ah} {N size len:Nat} {v:Value} {cells:List Value} (o:cw h N size v len cells) {i:Nat} (hi:i<len) : ∃ b,cd size v (aq i)=some (ptr b (i*size))∧h.get b=some cells∧cH v=some (aq len)∧N≤b:=by
 obtain ⟨_,_,_,⟨rfl,h4⟩|⟨b,s,rfl,h5,⟨rfl,h4⟩|⟨rfl,h6⟩⟩⟩:=o
 ·omega
 ·omega
 ·refine ⟨b,?_,h6,rfl,h5⟩
  unfold cd
  simp only [aq]
  rw [if_pos (by omega),Int.toNat_natCast,Nat.zero_add]
theorem cw.len {h:ah} {N size len:Nat} {v:Value} {cells:List Value} (o:cw h N size v len cells):cH v=some (aq len):=by
 obtain ⟨_,_,_,⟨rfl,h4⟩|⟨b,s,rfl,h5,_⟩⟩:=o
 ·rw [h4];rfl
 ·rfl
theorem cw.first {h:ah} {N len:Nat} {v:Value} {cells:List Value} (o:cw h N 1 v len cells):lenA v=some len∧bW 1 len v h=some cells:=by
 obtain ⟨h1,h2,_,⟨rfl,h4⟩|⟨b,s,rfl,h5,⟨rfl,h4⟩|⟨rfl,h6⟩⟩⟩:=o
 ·subst h4
  have:cells = []:=List.length_eq_zero_iff.1 (by omega)
  subst this
  exact ⟨rfl,rfl⟩
 ·subst h4
  have:cells = []:=List.length_eq_zero_iff.1 (by omega)
  subst this
  exact ⟨rfl,rfl⟩
 ·refine ⟨rfl,?_⟩
  simp only [bW,h6]
  by_cases h0:len=0
  ·subst h0
   have:cells = []:=List.length_eq_zero_iff.1 (by omega)
   subst this
   rfl
  ·rw [if_neg (by omega),List.drop_zero,List.take_of_length_le (by omega),if_pos ⟨by omega,h2⟩]
end Go.Proofs.Ytcmfgmhadeeieaa

namespace Go.Proofs.Ytcmfgmhadeeieaa
open Go Go.Abs
structure Rf where
 aW:List Nat
 down:Bool
 ca:Bool
 after:Int
 aC:Int
 aU:Int
def Rf.cells (S:Rf) (s:Value):dW := [s,.bool S.down,.bool S.ca,.int .i64 S.after,.int .i64 S.aC,.int .i64 S.aU]
def cM (h:ah) (F:Nat→Prop) (v:Value) (S:Rf):Prop:=
 ∃ a c,v = .agg (S.cells (.slice a S.aW.length c)).toArray∧av a S.aW.length h=some S.aW∧cQ a S.aW.length c=true ∧ ∀ y,a=some y→0<S.aW.length → ¬F y.block
theorem cM.aC {h h':ah} {F B:Nat→Prop} {v:Value} {S:Rf} (x:cM h F v S) (k:Kept h h' B) (hB : ∀ b,b<h.next→B b→F b):cM h' F v S:=by
 obtain ⟨a,c,rfl,h1,h2,h3⟩:=x
 refine ⟨a,c,rfl,k.bytes h1 (fun y hy hn hb => ?_),h2,h3⟩
 subst hy
 obtain ⟨b,off,s,e,hlt⟩:=eX h1 hn
 cases e
 exact h3 _ rfl hn (hB _ hlt hb)
theorem cM.bJ {h h':ah} {F:Nat→Prop} {v:Value} {S:Rf} (x:cM h F v S) (k:Old h h'):cM h' F v S:=x.aC k (fun _ _ h=>h.elim)
theorem cM.mono {h:ah} {F G:Nat→Prop} {v:Value} {S:Rf} (x:cM h F v S) (hG : ∀ b,G b→F b):cM h G v S:=by
 obtain ⟨a,c,rfl,h1,h2,h3⟩:=x
 exact ⟨a,c,rfl,h1,h2,fun y hy hn hg=>h3 y hy hn (hG _ hg)⟩
def cy:dW := [(.slice none 0 0),(.bool false),(.bool false),(.int .i64 0),(.int .i64 0),(.int .i64 0)]
theorem ld63 (v:Value) (h:ah):ld Try.prog 63 v h=ch 6 v h:=by
 unfold ld
 rw [show aggT Try.prog 63=some true by kernel_rfl,show ei Try.prog 63=some 6 by kernel_rfl]
theorem res_rf1 {rs:List ResultVar} {n k:Nat} (hr:rs = [.cell k 63]) (hk:k<n) (x:Nat→Value) {h:ah} {v:Value} (e:ch 6 (x k) h=some (v,h)):au Try.prog rs (aY n x) h=some (v,h):=by
 subst hr
 have hx:(aY n x).getD k undef=x k:=by
  unfold aY
  simp [hk]
 simp only [au,dS,hx,ld63,e]
 rfl
theorem iF {rs:List ResultVar} {n k t:Nat} (hr:rs = [.cell k 63,.tmp t]) (hk:k<n) (ht:t<n) (x:Nat→Value) {h:ah} {v:Value} (e:ch 6 (x k) h=some (v,h)):au Try.prog rs (aY n x) h=some (.tuple #[v,x t],h):=by
 subst hr
 have hx:(aY n x).getD k undef=x k:=by
  unfold aY
  simp [hk]
 have hy:(aY n x).getD t undef=x t:=by
  unfold aY
  simp [ht]
 simp only [au,List.mapM_cons,List.mapM_nil,dS,hx,hy,ld63,e]
 rfl
theorem gK (S:Rf) (a:Option Addr) (n c:Nat):bK (S.cells (.slice a n c))=true:=rfl
theorem bH (S:Rf) (a:Option Addr) (n c:Nat):Abs.cN (S.cells (.slice a n c))=true:=rfl
theorem dZ {h:ah} {F:Nat→Prop} {v:Value} {S:Rf} (x:cM h F v S) : ∃ a c g,v = .agg (S.cells (.slice a S.aW.length c)).toArray∧box v h=some (ptr h.next 0,g)∧g.get h.next=some (S.cells (.slice a S.aW.length c))∧Old h g∧g.next=h.next+1 ∧
  dB cy g=some (ptr (h.next+1) 0,g.alloc cy)∧(g.alloc cy).get (h.next+1)=some cy∧Old h (g.alloc cy)∧(g.alloc cy).get h.next=some (S.cells (.slice a S.aW.length c))∧(g.alloc cy).next=h.next+2 ∧
  av a S.aW.length h=some S.aW∧cQ a S.aW.length c=true ∧ ∀ y,a=some y→0<S.aW.length → ¬F y.block:=by
 obtain ⟨a,c,rfl,h1,h2,h3⟩:=x
 have o1:Old h (h.alloc (S.cells (.slice a S.aW.length c))):=Kept.alloc _ _ _
 have g1:(h.alloc (S.cells (.slice a S.aW.length c))).get h.next=some (S.cells (.slice a S.aW.length c)):=by rw [ah.aE,if_pos rfl]
 refine ⟨a,c,h.alloc (S.cells (.slice a S.aW.length c)),rfl,rfl,g1,o1,ah.aS ..,rfl,?_,o1.trans (Kept.alloc _ _ _),ah.di g1 _,rfl,h1,h2,h3⟩
 rw [ah.aE,if_pos (by rw [ah.aS])]
theorem gU {h:ah} {b:Nat} {k:dW} (hk:h.get b=some k) (hl:k.length=6) (hh:Abs.cN k=true):ch 6 (ptr b 0) h=some (.agg k.toArray,h):=cZ hk hl hh
theorem rf_st {h:ah} {b:Nat} {k k':dW} (hk:h.get b=some k) (h0:h.n0≤b) (hl:k.length=6) (hl':k'.length=6) (ho:bK k'=true):cf 6 (ptr b 0) (.agg k'.toArray) h=some (undef,h.set b k'):=stN_whole hk h0 hl hl' ho
theorem is51:cA Try.prog 51 Try.f51:=⟨by kernel_rfl,by kernel_rfl,by kernel_rfl,by kernel_rfl⟩
theorem quo128 (n:Nat) (h:n≤100000000):bin Try.prog .quo 3 (aq n) (.int .i64 128)=some (aq (n/128)):=by
 rw [bin_quo _ _ _ _ _ (by decide)]
 have:((n:Nat):Int).tdiv 128=((n/128:Nat):Int):=by rw [Int.tdiv_eq_ediv_of_nonneg (by omega)];rfl
 rw [this,bD (by omega) (by omega)]
theorem r51 {h:ah} {F:Nat→Prop} {v:Value} {S:Rf} (x:cM h F v S) (hl:S.aW.length≤1000000) : ∃ h',CD 51 [v] h=some (aq (S.aW.length/128),h')∧Old h h':=by
 obtain ⟨a,c,g,rfl,b1,b2,b3,_⟩:=dZ x
 refine ⟨g,aO is51 rfl ((t51_eq _ _ _).trans ?_),b3⟩
 have l0:ba (ptr h.next 0) g=some (.slice a S.aW.length c,g):=aN b2 rfl
 have hll:cH (.slice a S.aW.length c)=some (aq S.aW.length):=rfl
 unfold t51
 simp -implicitDefEqProofs only [b1,af,ax,Nat.add_zero,aj,l0,hll,quo128 _ (show S.aW.length≤100000000 by omega)]
theorem is104:cA Try.prog 104 Try.f104:=⟨by kernel_rfl,by kernel_rfl,by kernel_rfl,by kernel_rfl⟩
theorem r104 {h:ah} {F:Nat→Prop} {v:Value} {S:Rf} (x:cM h F v S) (hl:S.aW.length≤1000000) {i:Nat} (hi:128*i+128≤S.aW.length) :
  ∃ v' h',CD 104 [v,aq i] h=some (v',h')∧dr h' h.next v' ((S.aW.drop (128*i)).take 128)∧Old h h':=by
 obtain ⟨a,c,g,rfl,b1,b2,b3,b4,_,_,_,_,_,s1,s2,_⟩:=dZ x
 have oA:Old g (g.alloc []):=Kept.alloc _ _ _
 have nA:(g.alloc []).next=g.next+1:=ah.aS ..
 have hbs:cX 1 (.int .u8 0) 0 [] g=some (.slice (some ⟨g.next,0,none⟩) 0 0,g.alloc []):=rfl
 have l0:ba (ptr h.next 0) (g.alloc [])=some (.slice a S.aW.length c,g.alloc []):=aN (ah.di b2 _) rfl
 have own0:dr (g.alloc []) h.next (.slice (some ⟨g.next,0,none⟩) 0 0) []:=⟨cw.empty _ (by omega),by simp⟩
 have sA:=Old.bytes (b3.trans oA) s1
 obtain ⟨a',c',e1,e2,e3⟩:=dP (lo:=128*i) (hi:=128*i+128) (vl:=some (aq (128*i))) (vh:=some (aq (128*i+128))) s2 sA (by omega) hi (by
   have:=fH s2
   unfold bZ
   simp only [aq]
   rw [if_pos (by omega),Int.toNat_natCast]) (by
   unfold bZ
   simp only [aq]
   rw [if_pos (by omega),Int.toNat_natCast])
 rw [Nat.add_sub_cancel_left] at e1 e2 e3
 obtain ⟨v',g2,f1,f2,f3,_⟩:=dI own0 (by rw [oA.n0,b3.n0];exact h.aH) (by omega) e2 (c:=c') (by simp)
 rw [List.nil_append] at f2
 refine ⟨v',g2,aO is104 rfl ((t104_eq _ _ _ _).trans ?_),f2,(b3.trans oA).bS f3 (fun d hd hb => ?_)⟩
 ·unfold t104
  simp -implicitDefEqProofs only [b1,af,hbs,ax,Nat.add_zero,aj,l0,mul3 (a:=128) (show 128*i≤9223372036854775807 by omega),show bin Try.prog .mul 3 (.int .i64 128) (aq i)=some (aq (128*i)) from mul3 (a:=128) (by omega),show bin Try.prog .add 3 (aq (128*i)) (.int .i64 128)=some (aq (128*i+128)) from gY (b:=128) (by omega),e1,f1]
 ·have:cF (.slice (some ⟨g.next,0,none⟩) 0 0)=some g.next:=rfl
  rw [this] at hb
  cases hb
  omega
theorem is35:cA Try.prog 35 Try.f35:=⟨by kernel_rfl,by kernel_rfl,by kernel_rfl,by kernel_rfl⟩
def Rf.new (n:Nat):Rf:=⟨List.replicate (128*n) 0,false,false,0,0,0⟩
theorem r35 (h:ah) {n:Nat} (h4:4≤n) (hn:n≤4096) : ∃ v h',CD 35 [aq n] h=some (.tuple #[v,.int .i64 0],h')∧cM h' (fun c=>c<h.next) v (Rf.new n)∧Old h h':=by
 have o1:Old h (h.alloc cy):=Kept.alloc _ _ _
 have g1:(h.alloc cy).get h.next=some cy:=by rw [ah.aE,if_pos rfl]
 have hnew:dB cy h=some (ptr h.next 0,h.alloc cy):=rfl
 have n1:(h.alloc cy).next=h.next+1:=ah.aS ..
 have n01:(h.alloc cy).n0≤h.next:=h.aH
 generalize h.alloc cy=g at *
 have hmk:mkR 1 1 (.int .u8 0) (aq (128*n)) (aq (128*n)) g=some (cT g (128*n),g.alloc ((List.replicate (128*n) 0).map u8)):=mk1 (Nat.le_refl _) (by omega)
 have g2:(g.alloc ((List.replicate (128*n) 0).map u8)).get h.next=some cy:=ah.di g1 _
 have gi:(g.alloc ((List.replicate (128*n) 0).map u8)).get g.next=some ((List.replicate (128*n) 0).map u8):=by rw [ah.aE,if_pos rfl]
 have o2:Old h (g.alloc ((List.replicate (128*n) 0).map u8)):=o1.trans (Kept.alloc _ _ _)
 have n02:(g.alloc ((List.replicate (128*n) 0).map u8)).n0≤h.next:=n01
 have hbl:fU [(.slice none 0 0),(.bool false),(.bool false),(.int .i64 0),(.int .i64 0),(.int .i64 0)] [(0,1,cT g (128*n))]=some (.agg ((Rf.new n).cells (cT g (128*n))).toArray):=rfl
 generalize g.alloc ((List.replicate (128*n) 0).map u8)=q at *
 have hst:=rf_st (k':=(Rf.new n).cells (cT g (128*n))) g2 n02 rfl rfl rfl
 have g3:(q.set h.next ((Rf.new n).cells (cT g (128*n)))).get h.next=some ((Rf.new n).cells (cT g (128*n))):=ah.bI n02 g2 _
 have gi3:(q.set h.next ((Rf.new n).cells (cT g (128*n)))).get g.next=some ((List.replicate (128*n) 0).map u8):=(ah.bE n02 (q.aR g2) _ (by omega)).trans gi
 have o3:Old h (q.set h.next ((Rf.new n).cells (cT g (128*n)))):=o2.bS (Kept.set (B:=fun c=>c=h.next) n02 g2 (.inr rfl)) (fun c hc e=>by omega)
 have hld:=gU g3 rfl rfl
 have e1 : ¬((n:Int)<4):=by omega
 have e2 : ¬((n:Int)>4096):=by omega
 refine ⟨.agg ((Rf.new n).cells (cT g (128*n))).toArray,q.set h.next ((Rf.new n).cells (cT g (128*n))),aO is35 rfl ((t35_eq _ _ _).trans ?_),⟨some ⟨g.next,0,none⟩,128*n,?_,?_,?_,?_⟩,o3⟩
 ·unfold t35
  have hnew':dB [(.slice none 0 0),(.bool false),(.bool false),(.int .i64 0),(.int .i64 0),(.int .i64 0)] h=some (ptr h.next 0,g):=hnew
  simp -implicitDefEqProofs only [hnew',af,bT,aj,e1,decide_false,ay,beq_self_eq_true,aA,dM,e2,Bool.false_eq_true,if_false,show bin Try.prog .mul 3 (.int .i64 128) (aq n)=some (aq (128*n)) from mul3 (a:=128) (by omega),hmk,hbl,hst]
  exact iF (rs:=Try.f35.results.toList) (n:=15) (k:=2) (t:=3) (by kernel_rfl) (by decide) (by decide) _ hld
 ·rw [show (Rf.new n).aW.length=128*n by simp [Rf.new]]<;>rfl
 ·rw [show (Rf.new n).aW.length=128*n by simp [Rf.new]]
  rw [c9 (l:=List.replicate (128*n) 0) gi3 (by simp) (by intro y hy;rw [List.eq_of_mem_replicate hy];decide),List.drop_zero,List.take_of_length_le (by simp)]
  rfl
 ·unfold cQ
  simp [Rf.new]
 ·intro y hy _ hlt
  cases hy
  have:g.next<h.next:=hlt
  omega
end Go.Proofs.Ytcmfgmhadeeieaa

namespace Go.Proofs.Ytcmfgmhadeeieaa
open Go Go.Abs
theorem rf_set {h:ah} {b i:Nat} {k k':dW} {v:Value} (g:h.get b=some k) (h0:h.n0≤b) (hl:k.length=6) (hi:i<6) (hs:k.set i v=k') (h1:v.cells = #[v]) (h2:v.oneCell'=true) :
  cf 1 (ptr b i) v h=some (undef,h.set b k')∧(h.set b k').get b=some k'∧Kept h (h.set b k') (fun c=>c=b):=by
 subst hs
 exact ⟨dy g (by omega) h0 h1 h2,ah.bI h0 g _,Kept.set h0 g (.inr rfl)⟩
theorem rf_end {h0 h:ah} {b1 b2:Nat} {k z:dW} (g1:h.get b1=some k) (g2:h.get b2=some z) (hn:h.n0≤b2) (hl:k.length=6) (hz:z.length=6) (ho:bK k=true) (hh:Abs.cN k=true) (bJ:Old h0 h) (hb:h0.next≤b2) :
  ch 6 (ptr b1 0) h=some (.agg k.toArray,h)∧cf 6 (ptr b2 0) (.agg k.toArray) h=some (undef,h.set b2 k)∧ch 6 (ptr b2 0) (h.set b2 k)=some (.agg k.toArray,h.set b2 k)∧Old h0 (h.set b2 k):=
 ⟨gU g1 hl hh,rf_st g2 hn hz hl ho,gU (ah.bI hn g2 _) hl hh,bJ.bS (Kept.set (B:=fun c=>c=b2) hn g2 (.inr rfl)) (fun c hc e=>by omega)⟩
theorem cM.put {h h':ah} {F:Nat→Prop} {S S':Rf} {a:Option Addr} {c:Nat} (s1:av a S.aW.length h=some S.aW) (s2:cQ a S.aW.length c=true) (s3 : ∀ y,a=some y→0<S.aW.length → ¬F y.block) (o:Old h h') (hi:S'.aW=S.aW):cM h' F (.agg (S'.cells (.slice a S.aW.length c)).toArray) S':=
 ⟨a,c,by rw [hi],by rw [hi];exact Old.bytes o s1,by rw [hi];exact s2,by rw [hi];exact s3⟩
def Rf.off (S:Rf):Rf:={ S with down:=true,ca:=false,after:=0,aC:=0,aU:=if S.down then S.aU else IntKind.wrap .i64 (S.aU+1) }
def Rf.on (S:Rf):Rf:={ S with down:=false,ca:=false,after:=0,aC:=0 }
def Rf.arm (S:Rf) (after aC:Int):Rf×Int:=if S.down then (S,9) else if after<0∨aC<0∨128<aC then (S,2) else ({ S with ca:=true,after:=after,aC:=aC },0)
theorem is79:cA Try.prog 79 Try.f79:=⟨by kernel_rfl,by kernel_rfl,by kernel_rfl,by kernel_rfl⟩
theorem results79:Try.f79.results.toList = [.cell 2 63]:=by kernel_rfl
theorem results70:Try.f70.results.toList = [.cell 6 63,.tmp 7]:=by kernel_rfl
theorem results99:Try.f99.results.toList = [.cell 8 63]:=by kernel_rfl
theorem newC6 {h g:ah} {p:Value} (e:dB cy h=some (p,g)):dB [(.slice none 0 0),(.bool false),(.bool false),(.int .i64 0),(.int .i64 0),(.int .i64 0)] h=some (p,g):=e
section
variable {h:ah} {F:Nat→Prop} {v:Value} {S:Rf} (x:cM h F v S)
include x
theorem r79 : ∃ v' h',CD 79 [v] h=some (v',h')∧cM h' F v' S.off∧Old h h':=by
 obtain ⟨a,c,g,rfl,b1,_,_,b4,b5,b6,b7,b8,b9,s1,s2,s3⟩:=dZ x
 have b5:=newC6 b5
 have hn0:=h.aH
 have n0:(g.alloc cy).n0=h.n0:=b7.n0
 generalize g.alloc cy=q0 at *
 have l1:ba (ptr h.next 1) q0=some (.bool S.down,q0):=aN b8 rfl
 have l5:ba (ptr h.next 5) q0=some (.int .i64 S.aU,q0):=aN b8 rfl
 have step : ∃ qa,Kept q0 qa (fun c=>c=h.next)∧qa.get h.next=some (({ S with aU:=if S.down then S.aU else IntKind.wrap .i64 (S.aU+1) }:Rf).cells (.slice a S.aW.length c)) ∧
   (S.down=false→cf 1 (ptr h.next 5) (.int .i64 (IntKind.wrap .i64 (S.aU+1))) q0=some (undef,qa))∧(S.down=true→qa=q0):=by
  by_cases hd:S.down=true
  ·refine ⟨q0,Kept.refl _ _,?_,fun h=>absurd hd (by rw [h];decide),fun _=>rfl⟩
   rw [if_pos hd]
   exact b8
  ·obtain ⟨e1,g1,k1⟩:=rf_set (i:=5) (v := .int .i64 (IntKind.wrap .i64 (S.aU+1))) (k':=({ S with aU:=IntKind.wrap .i64 (S.aU+1) }:Rf).cells (.slice a S.aW.length c)) b8 (by omega) rfl (by decide) rfl rfl rfl
   refine ⟨_,k1,?_,fun _=>e1,fun h=>absurd h hd⟩
   rw [if_neg hd]
   exact g1
 obtain ⟨qa,ka,ga,ha1,ha2⟩:=step
 generalize hT:(if S.down then S.aU else IntKind.wrap .i64 (S.aU+1))=T at *
 obtain ⟨e1,g1,k1⟩:=rf_set (i:=1) (v := .bool true) (k':=({ S with aU:=T,down:=true }:Rf).cells (.slice a S.aW.length c)) ga (by rw [ka.n0];omega) rfl (by decide) rfl rfl rfl
 generalize qa.set h.next (({ S with aU:=T,down:=true }:Rf).cells (.slice a S.aW.length c))=q1 at *
 obtain ⟨e2,g2,k2⟩:=rf_set (i:=2) (v := .bool false) (k':=({ S with aU:=T,down:=true,ca:=false }:Rf).cells (.slice a S.aW.length c)) g1 (by rw [k1.n0,ka.n0];omega) rfl (by decide) rfl rfl rfl
 generalize q1.set h.next (({ S with aU:=T,down:=true,ca:=false }:Rf).cells (.slice a S.aW.length c))=q2 at *
 obtain ⟨e3,g3,k3⟩:=rf_set (i:=3) (v := .int .i64 0) (k':=({ S with aU:=T,down:=true,ca:=false,after:=0 }:Rf).cells (.slice a S.aW.length c)) g2 (by rw [k2.n0,k1.n0,ka.n0];omega) rfl (by decide) rfl rfl rfl
 generalize q2.set h.next (({ S with aU:=T,down:=true,ca:=false,after:=0 }:Rf).cells (.slice a S.aW.length c))=q3 at *
 obtain ⟨e4,g4,k4⟩:=rf_set (i:=4) (v := .int .i64 0) (k':=({ S with aU:=T,down:=true,ca:=false,after:=0,aC:=0 }:Rf).cells (.slice a S.aW.length c)) g3 (by rw [k3.n0,k2.n0,k1.n0,ka.n0];omega) rfl (by decide) rfl rfl rfl
 generalize q3.set h.next (({ S with aU:=T,down:=true,ca:=false,after:=0,aC:=0 }:Rf).cells (.slice a S.aW.length c))=q4 at *
 have k04:Kept q0 q4 (fun c=>c=h.next):=(((ka.trans k1).trans k2).trans k3).trans k4
 have z4:q4.get (h.next+1)=some cy:=k04.dp b6 (by omega)
 have o4:Old h q4:=b7.bS k04 (fun c hc e=>by omega)
 obtain ⟨f1,f2,f3,f4⟩:=rf_end (h0:=h) g4 z4 (by rw [o4.n0];omega) rfl rfl (gK _ _ _ _) (bH _ _ _ _) o4 (by omega)
 refine ⟨_,_,aO is79 rfl ((t79_eq _ _ _).trans ?_),cM.put (S':=S.off) s1 s2 s3 f4 rfl,f4⟩
 have hoff:S.off={ S with aU:=T,down:=true,ca:=false,after:=0,aC:=0 }:=by unfold Rf.off;rw [hT]
 rw [hoff]
 unfold t79
 cases hd:S.down with
 |true=>
  rw [hd] at l1
  have:=ha2 hd
  subst this
  simp -implicitDefEqProofs only [b1,af,b5,ax,Nat.zero_add,aj,l1,cC,Bool.not_true,e1,e2,e3,e4,f1,f2]
  exact res_rf1 (k:=2) results79 (by decide) _ f3
 |false=>
  rw [hd] at l1
  have e0:=ha1 hd
  simp -implicitDefEqProofs only [b1,af,b5,ax,Nat.zero_add,aj,l1,cC,Bool.not_false,l5,dL,e0,e1,e2,e3,e4,f1,f2]
  exact res_rf1 (k:=2) results79 (by decide) _ f3
def Rf.n (S:Rf):Nat:=S.aW.length/128
def Rf.fault (S:Rf) (i:Int):Int:=if S.down then 9 else if i<0∨(S.n:Int)≤i then 2 else 0
end
end Go.Proofs.Ytcmfgmhadeeieaa

namespace Go.Proofs.Ytcmfgmhadeeieaa
open Go Go.Abs
theorem splice_snoc {M b:List Nat} {off j:Nat} (h:off+j<M.length) (hj:j<b.length):(cJ M off (b.take j)).set (off+j) (b.getD j 0)=cJ M off (b.take (j+1)):=by
 have l1:(b.take j).length=j:=by rw [List.length_take];omega
 have l2:(b.take (j+1)).length=j+1:=by rw [List.length_take];omega
 have hb:b.getD j 0=b[j]:=by rw [List.getD_eq_getElem?_getD,List.getElem?_eq_getElem hj];rfl
 apply List.ext_getElem?
 intro q
 rw [eu (by omega)]
 by_cases hq:q=off+j
 ·subst hq
  rw [List.getElem?_set_self (by rw [eP (by omega)];omega),if_pos (by omega),Nat.add_sub_cancel_left,List.getElem?_take,if_pos (by omega),List.getElem?_eq_getElem hj,hb]
 ·rw [List.getElem?_set_ne (by omega),eu (by omega)]
  by_cases h2:off≤q∧q<off+(b.take j).length
  ·rw [if_pos h2,if_pos (by omega),List.getElem?_take,List.getElem?_take,if_pos (by omega),if_pos (by omega)]
  ·rw [if_neg h2,if_neg (by omega)]
theorem byte_at {h:ah} {a:Option Addr} {n c i:Nat} {l:List Nat} (e:av a n h=some l) (hi:i<n) : ∃ b p,a.map (·.block)=some b∧cd 1 (.slice a n c) (aq i)=some (ptr b p)∧ba (ptr b p) h=some (u8 (l.getD i 0),h):=by
 obtain ⟨h1,h2,h3⟩:=aw e
 obtain ⟨b,off,s,k,rfl,hk,hlen,hc⟩:=h3 (by omega)
 refine ⟨b,off+i,rfl,?_,aN hk (hc i hi) rfl⟩
 unfold cd
 simp only [aq]
 rw [if_pos (by omega),Int.toNat_natCast,Nat.mul_one]
theorem is99:cA Try.prog 99 Try.f99:=⟨by kernel_rfl,by kernel_rfl,by kernel_rfl,by kernel_rfl⟩
theorem is70:cA Try.prog 70 Try.f70:=⟨by kernel_rfl,by kernel_rfl,by kernel_rfl,by kernel_rfl⟩
def Rf.put (S:Rf) (i:Nat) (b:List Nat):Rf:={ S with aW:=cJ S.aW (128*i) b }
theorem mul128 (i:Nat) (h:i≤1000000):bin Try.prog .mul 3 (.int .i64 128) (aq i)=some (aq (128*i)):=mul3 (a:=128) (by omega)
theorem put_loop (X:Nat→Value) (g0:ah) {B L i n nb cb:Nat} {sp:Option Nat} {M bl:List Nat} {ab:Option Addr} (hM:M.length=L) (gB:g0.get B=some (M.map u8)) (h0:g0.n0≤B) (hb:av ab nb g0=some bl) (hab : ∀ y,ab=some y→0<nb→y.block≠B) (hn:n≤bl.length) (hfit:128*i+n≤L) (hL:L≤1000000)
  (x9:X 9 = .slice (some ⟨B,0,sp⟩) L L) (x1:X 1=aq i) (x2:X 2 = .slice ab nb cb) (x3:X 3=aq n) (x10:X 10=aq 0) :
  Fin 33 (fun ex y g=>ex = .exit 0∧y 9=X 9∧y 4=X 4∧y 8=X 8∧g.get B=some ((cJ M (128*i) (bl.take n)).map u8)∧Kept g0 g (fun c=>c=B)) (iter (aI Try.prog CD (partOf Try.f99 [1,1,0,1,0,0])) rounds (aY 33 X) g0):=by
 have hnb:=(aw hb).1
 refine cg (t99l99_11010_eq CD) (Inv:=fun k y g => ∃ j,j+k=n∧y 10=aq j∧y 9=X 9∧y 4=X 4∧y 8=X 8∧y 1=X 1∧y 2=X 2∧y 3=X 3∧g.get B=some ((cJ M (128*i) (bl.take j)).map u8)∧Kept g0 g (fun c=>c=B)) ?_ n (by have:rounds=18446744073709551616:=rfl;omega)
  ⟨0,Nat.zero_add _,x10,rfl,rfl,rfl,rfl,rfl,rfl,by rw [gB,List.take_zero];simp [cJ],Kept.refl _ _⟩
 rintro k y g ⟨j,hjk,bM,y9,y4,y8,y1,y2,y3,gg,kk⟩
 unfold t99l99_11010
 simp -implicitDefEqProofs only [bM,y3,x3,af,fT,aj]
 by_cases hj:j<n
 ·have hbg:=kk.bytes hb (fun y hy hn hB=>hab y hy hn hB)
  obtain ⟨b,p,_,i1,i2⟩:=byte_at (c:=cb) hbg (i:=j) (by omega)
  have hix:cd 1 (.slice (some ⟨B,0,sp⟩) L L) (aq (128*i+j))=some (ptr B (128*i+j)):=by
   unfold cd
   simp only [aq]
   rw [if_pos (by omega),Int.toNat_natCast,Nat.mul_one,Nat.zero_add]
  have hlen:((cJ M (128*i) (bl.take j)).map u8).length=L:=by rw [List.length_map,eP (by rw [List.length_take];omega),hM]
  have hst:=dy (v:=u8 (bl.getD j 0)) gg (show 128*i+j<_ by rw [hlen];omega) (by rw [kk.n0];exact h0) rfl rfl
  rw [←List.map_set,splice_snoc (by omega) (by omega)] at hst
  simp -implicitDefEqProofs only [decide_eq_true hj,af,y9,x9,y1,x1,mul128 i (by omega),aj,gY (show 128*i+j≤9223372036854775807 by omega),y2,x2,i1,i2,hix,hst,ef (show j+1≤9223372036854775807 by omega)]
  refine cY.next (k-1) (by omega) ⟨j+1,by omega,rfl,y9.trans x9,y4,y8,y1.trans x1,y2.trans x2,y3.trans x3,ah.bI (by rw [kk.n0];exact h0) gg _,kk.trans (Kept.set (by rw [kk.n0];exact h0) gg (.inr rfl))⟩
 ·have:j=n:=by omega
  subst this
  simp -implicitDefEqProofs only [decide_eq_false hj]
  exact cY.out 0 ⟨rfl,y9,y4,y8,gg,kk⟩
theorem r99 {h:ah} {F:Nat→Prop} {v:Value} {S:Rf} (x:cM h F v S) (hl:S.aW.length≤1000000) (hp:0<S.aW.length) {i n nb cb:Nat} {ab:Option Addr} {bl:List Nat} (hb:av ab nb h=some bl) (hn:n≤bl.length) (hfit:128*i+n≤S.aW.length) :
  ∃ v' h',CD 99 [v,aq i,.slice ab nb cb,aq n] h=some (v',h')∧cM h' (fun c=>c<h.next) v' (S.put i (bl.take n))∧Old h h':=by
 obtain ⟨a,c,g,rfl,b1,_,_,b4,b5,b6,b7,b8,b9,s1,s2,s3⟩:=dZ x
 have b5:=newC6 b5
 have hn0:=h.aH
 generalize g.alloc cy=q0 at *
 have oA:Old q0 (q0.alloc []):=Kept.alloc _ _ _
 have hbs:cX 1 (.int .u8 0) 0 [] q0=some (.slice (some ⟨q0.next,0,none⟩) 0 0,q0.alloc []):=rfl
 have nA:(q0.alloc []).next=q0.next+1:=ah.aS ..
 have own0:dr (q0.alloc []) q0.next (.slice (some ⟨q0.next,0,none⟩) 0 0) []:=⟨cw.empty _ (Nat.le_refl _),by simp⟩
 have gA:=ah.di b8 []
 have zA:=ah.di b6 []
 have l0:ba (ptr h.next 0) (q0.alloc [])=some (.slice a S.aW.length c,q0.alloc []):=aN gA rfl
 have oh:=b7.trans oA
 generalize q0.alloc []=q1 at *
 obtain ⟨w,q2,e1,ow,k1,_⟩:=dI own0 (by rw [oh.n0];omega) (by omega) (Old.bytes oh s1) (c:=c) (by simp;omega)
 rw [List.nil_append] at ow
 have o2:Old h q2:=oh.bS k1 (fun d hd hB=>by
  have:cF (.slice (some ⟨q0.next,0,none⟩) 0 0)=some q0.next:=rfl
  rw [this] at hB
  cases hB
  omega)
 have g2:q2.get h.next=some (S.cells (.slice a S.aW.length c)):=k1.dp gA (fun hB=>by
  have:cF (.slice (some ⟨q0.next,0,none⟩) 0 0)=some q0.next:=rfl
  rw [this] at hB
  have:=Option.some.inj hB
  omega)
 have z2:q2.get (h.next+1)=some cy:=k1.dp zA (fun hB=>by
  have:cF (.slice (some ⟨q0.next,0,none⟩) 0 0)=some q0.next:=rfl
  rw [this] at hB
  have:=Option.some.inj hB
  omega)
 obtain ⟨⟨_,_,_,⟨_,z⟩|⟨B,sp,rfl,hB,⟨_,z⟩|⟨rfl,gB⟩⟩⟩,_⟩:=ow
 ·omega
 ·omega
 have hq0:q0.next=h.next+2:=b9
 have run : ∀ Z:Nat→Value,Z 9 = .slice (some ⟨B,0,some 1⟩) S.aW.length S.aW.length→Z 1=aq i→Z 2 = .slice ab nb cb→Z 3=aq n→Z 10=aq 0→Z 4=ptr h.next 0→Z 8=ptr (h.next+1) 0 →
   ∃ v' h',dD (iter (aI Try.prog CD (partOf Try.f99 [1,1,0,1,0,0])) rounds (aY 33 Z) q2) (au Try.prog Try.f99.results.toList) (b99_4 CD)=some (v',h')∧cM h' (fun c=>c<h.next) v' (S.put i (bl.take n))∧Old h h':=by
  intro Z z9 z1 zz2 z3 z10 z4 z8
  refine cn (Q:=fun o:Out => ∃ v' h',o=some (v',h')∧cM h' (fun c=>c<h.next) v' (S.put i (bl.take n))∧Old h h')
   (put_loop Z q2 rfl gB (by rw [o2.n0];omega) (Old.bytes o2 hb) (fun y hy hpos=>by
    subst hy
    obtain ⟨b,off,s,e,hlt⟩:=eX hb hpos
    cases e
    show b≠B
    omega) hn hfit hl z9 z1 zz2 z3 z10) ?_
  rintro ex z q3 ⟨rfl,y9,y4,y8,gB3,k3⟩
  have g3:=k3.dp g2 (by omega)
  have zz3:=k3.dp z2 (by omega)
  have o3:Old h q3:=o2.bS k3 (fun c hc e=>by omega)
  obtain ⟨e2,g4,k4⟩:=rf_set (i:=0) (v := .slice (some ⟨B,0,some 1⟩) S.aW.length S.aW.length) (k':=(S.put i (bl.take n)).cells (.slice (some ⟨B,0,some 1⟩) S.aW.length S.aW.length)) g3 (by rw [o3.n0];omega) rfl (by decide) rfl rfl rfl
  generalize q3.set h.next ((S.put i (bl.take n)).cells (.slice (some ⟨B,0,some 1⟩) S.aW.length S.aW.length))=q4 at *
  have zz4:=k4.dp zz3 (by omega)
  have gB4:=k4.dp gB3 (by omega)
  have o4:Old h q4:=o3.bS k4 (fun c hc e=>by omega)
  obtain ⟨f1,f2,f3,f4⟩:=rf_end (h0:=h) g4 zz4 (by rw [o4.n0];omega) rfl rfl (gK _ _ _ _) (bH _ _ _ _) o4 (by omega)
  have gB5:(q4.set (h.next+1) ((S.put i (bl.take n)).cells (.slice (some ⟨B,0,some 1⟩) S.aW.length S.aW.length))).get B=some ((cJ S.aW (128*i) (bl.take n)).map u8):=(ah.bE (by rw [o4.n0];omega) (q4.aR zz4) _ (by omega)).trans gB4
  have hlen:(cJ S.aW (128*i) (bl.take n)).length=S.aW.length:=eP (by rw [List.length_take];omega)
  have hbyte : ∀ x∈cJ S.aW (128*i) (bl.take n),x<256:=spliceN_byte (aw s1).2.1 (fun x hx=>(aw hb).2.1 x (List.mem_of_mem_take hx))
  simp -implicitDefEqProofs only [bA,b99_4,if_true,t99k99_2_eq]
  unfold t99k99_2
  have y9':=y9.trans z9
  have y4':=y4.trans z4
  have y8':=y8.trans z8
  simp -implicitDefEqProofs only [y9',y4',y8',af,ax,Nat.zero_add,aj,e2,f1,f2]
  refine ⟨_,_,res_rf1 (k:=8) results99 (by decide) _ (by simp only [aM,aV,Nat.reduceEqDiff,if_false,y8'];exact f3),⟨some ⟨B,0,some 1⟩,S.aW.length,by rw [show (S.put i (bl.take n)).aW.length=S.aW.length from hlen],?_,?_,?_⟩,f4⟩
  ·rw [show (S.put i (bl.take n)).aW.length=S.aW.length from hlen,c9 (l:=cJ S.aW (128*i) (bl.take n)) gB5 (by omega) hbyte,List.drop_zero,List.take_of_length_le (by omega)]
   rfl
  ·rw [show (S.put i (bl.take n)).aW.length=S.aW.length from hlen]
   unfold cQ
   simp
  ·intro y hy _ hlt
   cases hy
   have:B<h.next:=hlt
   omega
 have key : ∃ v' h',t99 CD (.agg (S.cells (.slice a S.aW.length c)).toArray) (aq i) (.slice ab nb cb) (aq n) h=some (v',h')∧cM h' (fun c=>c<h.next) v' (S.put i (bl.take n))∧Old h h':=by
  unfold t99
  simp -implicitDefEqProofs only [b1,af,b5,hbs,ax,Nat.add_zero,aj,l0,e1]
  exact run _ rfl rfl rfl rfl rfl rfl rfl
 obtain ⟨v',h',e,f⟩:=key
 exact ⟨v',h',aO is99 rfl ((t99_eq _ _ _ _ _ _).trans e),f⟩
def Rf.write (S:Rf) (i:Int) (b:List Nat):Int×Rf:=
 if S.fault i=0 then
  if b.length=128 then
   if S.ca then
    if S.after=0 then (9,(S.put i.toNat (b.take S.aC.toNat)).off)
    else (0,{ S with after:=IntKind.wrap .i64 (S.after-1) }.put i.toNat b)
   else (0,S.put i.toNat b)
  else (10,S)
 else (S.fault i,S)
theorem Rf.gD {S:Rf} {i:Int} (h:S.fault i=0):S.down=false∧0≤i∧i<(S.n:Int):=by
 unfold Rf.fault at h
 split at h
 ·cases h
 ·rename_i hd
  split at h
  ·cases h
  ·exact ⟨by simpa using hd,by omega,by omega⟩
set_option maxRecDepth 100000 in
theorem r70 {h:ah} {F:Nat→Prop} {v:Value} {S:Rf} (x:cM h F v S) (hF : ∀ b,F b→b<h.next) (hl:S.aW.length≤1000000) (hk:0≤S.aC∧S.aC≤128) (i:Int) {nb cb:Nat} {ab:Option Addr} {bl:List Nat} (hb:av ab nb h=some bl) :
  ∃ v' h',CD 70 [v,.int .i64 i,.slice ab nb cb] h=some (.tuple #[v',.int .i64 (S.write i bl).1],h')∧cM h' F v' (S.write i bl).2∧Old h h':=by
 have hnb:=(aw hb).1
 have x':=x
 obtain ⟨a,c,g,rfl,b1,_,_,b4,b5,b6,b7,b8,b9,s1,s2,s3⟩:=dZ x
 have b5:=newC6 b5
 have hn0:=h.aH
 generalize g.alloc cy=q0 at *
 have n0:q0.n0=h.n0:=b7.n0
 have l1:ba (ptr h.next 1) q0=some (.bool S.down,q0):=aN b8 rfl
 obtain ⟨f1,f2,f3,f4⟩:=rf_end (h0:=h) b8 b6 (by omega) rfl rfl (gK _ _ _ _) (bH _ _ _ _) b7 (by omega)
 have hll:cH (.slice ab nb cb)=some (aq nb):=rfl
 cases hd:S.down with
 |true=>
  rw [hd] at l1
  have hf:S.fault i=9:=by unfold Rf.fault;rw [hd,if_pos rfl]
  have ha:S.write i bl=(9,S):=by unfold Rf.write;rw [hf,if_neg (by decide)]
  rw [ha]
  refine ⟨_,_,aO is70 rfl ((t70_eq _ _ _ _ _).trans ?_),cM.put s1 s2 s3 f4 rfl,f4⟩
  unfold t70
  simp -implicitDefEqProofs only [b1,af,b5,ax,Nat.zero_add,aj,l1,f1,f2]
  exact iF (rs:=Try.f70.results.toList) (n:=48) (k:=6) (t:=7) results70 (by decide) (by decide) _ f3
 |false=>
  rw [hd] at l1
  by_cases c1:i<0
  ·have hf:S.fault i=2:=by unfold Rf.fault;rw [hd,if_neg (by decide),if_pos (.inl c1)]
   have ha:S.write i bl=(2,S):=by unfold Rf.write;rw [hf,if_neg (by decide)]
   rw [ha]
   refine ⟨_,_,aO is70 rfl ((t70_eq _ _ _ _ _).trans ?_),cM.put s1 s2 s3 f4 rfl,f4⟩
   unfold t70
   simp -implicitDefEqProofs only [b1,af,b5,ax,Nat.zero_add,aj,l1,bT,decide_eq_true c1,ay,sf,aF,if_true,f1,f2]
   exact iF (rs:=Try.f70.results.toList) (n:=48) (k:=6) (t:=7) results70 (by decide) (by decide) _ f3
  obtain ⟨k,rfl⟩ : ∃ k:Nat,i=k:=⟨i.toNat,by omega⟩
  obtain ⟨q1,e51,o51⟩:=r51 (x'.bJ b7) hl
  have g1:=Old.get o51 b8
  have z1:=Old.get o51 b6
  have o1:=b7.trans o51
  obtain ⟨p1,p2,p3,p4⟩:=rf_end (h0:=h) g1 z1 (by rw [o1.n0];omega) rfl rfl (gK _ _ _ _) (bH _ _ _ _) o1 (by omega)
  by_cases c2:(k:Int)≥((S.aW.length/128:Nat):Int)
  ·have hf:S.fault (k:Int)=2:=by unfold Rf.fault Rf.n;rw [hd,if_neg (by decide),if_pos (.inr c2)]
   have ha:S.write (k:Int) bl=(2,S):=by unfold Rf.write;rw [hf,if_neg (by decide)]
   rw [ha]
   refine ⟨_,_,aO is70 rfl ((t70_eq _ _ _ _ _).trans ?_),cM.put s1 s2 s3 p4 rfl,p4⟩
   unfold t70
   simp -implicitDefEqProofs only [b1,af,b5,ax,Nat.zero_add,aj,l1,bT,decide_eq_false c1,ay,beq_self_eq_true,aA,f1,e51,eR,decide_eq_true c2,Bool.false_eq_true,if_false,p1,p2]
   exact iF (rs:=Try.f70.results.toList) (n:=48) (k:=6) (t:=7) results70 (by decide) (by decide) _ p3
  have hf:S.fault (k:Int)=0:=by unfold Rf.fault Rf.n;rw [hd,if_neg (by decide),if_neg (by omega)]
  by_cases c3:nb=128
  ·subst c3
   have hz:bin Try.prog .neq 3 (aq 128) (.int .i64 128)=some (.bool false):=by kernel_rfl
   have l2:ba (ptr h.next 2) q1=some (.bool S.ca,q1):=aN g1 rfl
   have l3:ba (ptr h.next 3) q1=some (.int .i64 S.after,q1):=aN g1 rfl
   have l4:ba (ptr h.next 4) q1=some (.int .i64 S.aC,q1):=aN g1 rfl
   have hb1:=Old.bytes o1 hb
   have fin : ∀ {T:Rf} {vv:Value} {q2:ah},cM q2 (fun c=>c<q1.next) vv T→Old q1 q2 → ∃ h',cf 6 (ptr (h.next+1) 0) vv q2=some (undef,h')∧ch 6 (ptr (h.next+1) 0) h'=some (vv,h')∧cM h' F vv T∧Old h h':=by
    intro T vv q2 r o2
    have r':=r
    obtain ⟨a2,c2,rfl,t1,t2,t3⟩:=r
    have zz:=Old.get o2 z1
    have oo:=o1.trans o2
    have hn2:q2.n0≤h.next+1:=by rw [oo.n0];omega
    have kk:Kept q2 (q2.set (h.next+1) (T.cells (.slice a2 T.aW.length c2))) (fun c=>c=h.next+1):=Kept.set hn2 zz (.inr rfl)
    have hn1:=o51.next
    refine ⟨_,rf_st zz hn2 rfl rfl (gK _ _ _ _),gU (ah.bI hn2 zz _) rfl (bH _ _ _ _),?_,oo.bS kk (fun c hc e=>by omega)⟩
    refine (r'.aC kk (fun b _ hbb => ?_)).mono (fun b hbF => ?_)
    ·show b<q1.next
     have:b=h.next+1:=hbb
     omega
    ·show b<q1.next
     have:=hF b hbF
     have:=o1.next
     omega
   cases har:S.ca with
   |true=>
    rw [har] at l2
    by_cases c4:S.after=0
    ·have ha:S.write (k:Int) bl=(9,(S.put k (bl.take S.aC.toNat)).off):=by unfold Rf.write;rw [hf,if_pos rfl,if_pos hnb,har,if_pos rfl,if_pos c4,Int.toNat_natCast]
     rw [ha]
     have hkk:(.int .i64 S.aC:Value)=aq S.aC.toNat:=by show Value.int .i64 S.aC = .int .i64 ((S.aC.toNat:Nat):Int);rw [Int.toNat_of_nonneg hk.1]
     obtain ⟨v2,q2,e99,r2,o2⟩:=r99 (cb:=cb) (x'.bJ o1) hl (by omega) (i:=k) (n:=S.aC.toNat) hb1 (by omega) (by omega)
     obtain ⟨v3,q3,e79,r3,o3⟩:=r79 r2
     obtain ⟨h',st1,st2,st3,st4⟩:=fin (q2:=q3) r3 (o2.trans o3)
     have hz0:bin Try.prog .eql 3 (.int .i64 S.after) (.int .i64 0)=some (.bool true):=by rw [c4];kernel_rfl
     refine ⟨_,h',aO is70 rfl ((t70_eq _ _ _ _ _).trans ?_),st3,st4⟩
     unfold t70
     rw [hkk] at l4
     simp -implicitDefEqProofs only [b1,af,b5,ax,Nat.zero_add,aj,l1,bT,decide_eq_false c1,ay,beq_self_eq_true,aA,f1,e51,eR,decide_eq_false c2,Bool.false_eq_true,if_false,hll,hz,l2,l3,hz0,if_true,p1,l4,e99,e79,st1]
     exact iF (rs:=Try.f70.results.toList) (n:=48) (k:=6) (t:=7) results70 (by decide) (by decide) _ st2
    ·have ha:S.write (k:Int) bl=(0,{ S with after:=IntKind.wrap .i64 (S.after-1) }.put k bl):=by unfold Rf.write;rw [hf,if_pos rfl,if_pos hnb,har,if_pos rfl,if_neg c4,Int.toNat_natCast]
     rw [ha]
     obtain ⟨es,gs,ks⟩:=rf_set (i:=3) (v := .int .i64 (IntKind.wrap .i64 (S.after-1))) (k':=({ S with after:=IntKind.wrap .i64 (S.after-1) }:Rf).cells (.slice a S.aW.length c)) g1 (by rw [o1.n0];omega) rfl (by decide) rfl rfl rfl
     have zs:=ks.dp z1 (by omega)
     have os:Old h _:=o1.bS ks (fun c hc e=>by omega)
     have hbs:=Old.bytes os hb
     have rs:cM _ F (.agg (({ S with after:=IntKind.wrap .i64 (S.after-1) }:Rf).cells (.slice a S.aW.length c)).toArray) { S with after:=IntKind.wrap .i64 (S.after-1) }:=cM.put s1 s2 s3 os rfl
     have hns:=ks.next
     generalize q1.set h.next (({ S with after:=IntKind.wrap .i64 (S.after-1) }:Rf).cells (.slice a S.aW.length c))=qs at *
     have lds:=gU gs rfl (bH _ _ _ _)
     obtain ⟨v2,q2,e99,r2,o2⟩:=r99 (cb:=cb) rs hl (by show 0<S.aW.length;omega) (i:=k) (n:=128) hbs (by omega) (by show _≤S.aW.length;omega)
     have e99':CD 99 [_,aq k,_,.int .i64 128] _=_:=e99
     rw [List.take_of_length_le (by omega)] at r2
     have zz:=Old.get o2 zs
     have oo:=os.trans o2
     have hn2:q2.n0≤h.next+1:=by rw [oo.n0];omega
     have r2':=r2
     obtain ⟨a2,c2',rfl,t1,t2,t3⟩:=r2
     have kk:Kept q2 (q2.set (h.next+1) (({ S with after:=IntKind.wrap .i64 (S.after-1) }.put k bl:Rf).cells (.slice a2 ({ S with after:=IntKind.wrap .i64 (S.after-1) }.put k bl:Rf).aW.length c2'))) (fun c=>c=h.next+1):=Kept.set hn2 zz (.inr rfl)
     have st1:=rf_st (k':=({ S with after:=IntKind.wrap .i64 (S.after-1) }.put k bl:Rf).cells (.slice a2 ({ S with after:=IntKind.wrap .i64 (S.after-1) }.put k bl:Rf).aW.length c2')) zz hn2 rfl rfl (gK _ _ _ _)
     have st2:=gU (ah.bI hn2 zz (({ S with after:=IntKind.wrap .i64 (S.after-1) }.put k bl:Rf).cells (.slice a2 ({ S with after:=IntKind.wrap .i64 (S.after-1) }.put k bl:Rf).aW.length c2'))) rfl (bH _ _ _ _)
     have hn1:=o51.next
     have hbz:bin Try.prog .eql 3 (.int .i64 S.after) (.int .i64 0)=some (.bool false):=by rw [eU];exact congrArg (fun q=>some (Value.bool q)) (beq_eq_false_iff_ne.2 c4)
     refine ⟨_,_,aO is70 rfl ((t70_eq _ _ _ _ _).trans ?_),(r2'.aC kk (fun b _ hbb => ?_)).mono (fun b hbF => ?_),oo.bS kk (fun c hc e=>by omega)⟩
     ·unfold t70
      simp -implicitDefEqProofs only [b1,af,b5,ax,Nat.zero_add,aj,l1,bT,decide_eq_false c1,ay,beq_self_eq_true,aA,f1,e51,eR,decide_eq_false c2,Bool.false_eq_true,if_false,hll,hz,l2,l3,hbz,if_true,gZ,es,lds,e99',st1]
      exact iF (rs:=Try.f70.results.toList) (n:=48) (k:=6) (t:=7) results70 (by decide) (by decide) _ st2
     ·show b<qs.next
      have:b=h.next+1:=hbb
      omega
     ·show b<qs.next
      have:=hF b hbF
      have:=o1.next
      omega
   |false=>
    rw [har] at l2
    have ha:S.write (k:Int) bl=(0,S.put k bl):=by unfold Rf.write;rw [hf,if_pos rfl,if_pos hnb,har,if_neg (by decide),Int.toNat_natCast]
    rw [ha]
    obtain ⟨v2,q2,e99,r2,o2⟩:=r99 (cb:=cb) (x'.bJ o1) hl (by omega) (i:=k) (n:=128) hb1 (by omega) (by omega)
    have e99':CD 99 [_,aq k,_,.int .i64 128] _=_:=e99
    rw [List.take_of_length_le (by omega)] at r2
    obtain ⟨h',st1,st2,st3,st4⟩:=fin r2 o2
    refine ⟨_,h',aO is70 rfl ((t70_eq _ _ _ _ _).trans ?_),st3,st4⟩
    unfold t70
    simp -implicitDefEqProofs only [b1,af,b5,ax,Nat.zero_add,aj,l1,bT,decide_eq_false c1,ay,beq_self_eq_true,aA,f1,e51,eR,decide_eq_false c2,Bool.false_eq_true,if_false,hll,hz,l2,fs,aF,p1,e99',st1]
    exact iF (rs:=Try.f70.results.toList) (n:=48) (k:=6) (t:=7) results70 (by decide) (by decide) _ st2
  ·have hz:bin Try.prog .neq 3 (aq nb) (.int .i64 128)=some (.bool true):=by
    rw [bin_neq]
    exact congrArg (fun q=>some (Value.bool q)) (bne_iff_ne.2 (by omega))
   have ha:S.write (k:Int) bl=(10,S):=by unfold Rf.write;rw [hf,if_pos rfl,if_neg (by omega)]
   rw [ha]
   refine ⟨_,_,aO is70 rfl ((t70_eq _ _ _ _ _).trans ?_),cM.put s1 s2 s3 p4 rfl,p4⟩
   unfold t70
   simp -implicitDefEqProofs only [b1,af,b5,ax,Nat.zero_add,aj,l1,bT,decide_eq_false c1,ay,beq_self_eq_true,aA,f1,e51,eR,decide_eq_false c2,Bool.false_eq_true,if_false,hll,hz,p1,p2]
   exact iF (rs:=Try.f70.results.toList) (n:=48) (k:=6) (t:=7) results70 (by decide) (by decide) _ p3
end Go.Proofs.Ytcmfgmhadeeieaa

namespace Go.Proofs.Ytcmfgmhadeeieaa
open Go Go.Abs
structure Eqd (D:Dk) (S:Rf):Prop where
 aW:S.aW=D.aW
 down:S.down=D.down
 ca:S.ca=D.ca
 arm:D.ca=true→S.after=D.after∧S.aC=D.aC
 da:D.down=true→D.ca=false
 aU:S.aU=D.aU
 kp:0≤S.aC∧S.aC≤128
theorem Eqd.n {D:Dk} {S:Rf} (q:Eqd D S) (hl:D.aW.length=128*D.n):S.n=D.n:=by
 unfold Rf.n
 rw [q.aW,hl];omega
theorem Eqd.fault {D:Dk} {S:Rf} (q:Eqd D S) (hl:D.aW.length=128*D.n) (i:Int):S.fault i=D.fault i:=by
 unfold Rf.fault Dk.fault
 rw [q.down,q.n hl]
theorem Eqd.off {D:Dk} {S:Rf} (q:Eqd D S):Eqd D.off S.off:=by
 by_cases hd:D.down=true
 ·have e:D.off=D:=by unfold Dk.off;rw [if_pos hd]
  rw [e]
  refine ⟨q.aW,hd.symm,(q.da hd).symm,fun h=>absurd h (by rw [q.da hd];decide),q.da,?_,⟨Int.le_refl 0,by show (0:Int)≤128;omega⟩⟩
  show (if S.down=true then S.aU else IntKind.wrap .i64 (S.aU+1))=D.aU
  rw [q.down,if_pos hd,q.aU]
 ·have e:D.off={ D with down:=true,ca:=false,aU:=IntKind.wrap .i64 (D.aU+1) }:=by unfold Dk.off;rw [if_neg hd]
  rw [e]
  refine ⟨q.aW,rfl,rfl,fun h=>(by cases h),fun _=>rfl,?_,⟨Int.le_refl 0,by show (0:Int)≤128;omega⟩⟩
  show (if S.down=true then S.aU else IntKind.wrap .i64 (S.aU+1))=IntKind.wrap .i64 (D.aU+1)
  rw [q.down,if_neg hd,q.aU]
theorem Eqd.on {D:Dk} {S:Rf} (q:Eqd D S):Eqd D.on S.on:=⟨q.aW,rfl,rfl,fun h=>(by cases h),fun _=>rfl,q.aU,⟨Int.le_refl 0,by show (0:Int)≤128;omega⟩⟩
theorem Eqd.write {D:Dk} {S:Rf} (q:Eqd D S) (hl:D.aW.length=128*D.n) (ha:0≤D.after∧D.after≤9223372036854775807) (i:Int) (b:List Nat):(S.write i b).1=(D.write i b).1∧Eqd (D.write i b).2 (S.write i b).2:=by
 unfold Rf.write Dk.write
 rw [q.fault hl]
 by_cases hf:D.fault i=0
 ·obtain ⟨hdn,hi1,hi2⟩:=Dk.gD hf
  rw [if_pos hf,if_pos hf]
  by_cases hb:b.length=128
  ·rw [if_pos hb,if_pos hb,q.ca]
   have lay : ∀ l,Eqd (D.lay i l) (S.put i.toNat l):=fun l=>⟨by unfold Dk.lay Rf.put;rw [q.aW,Nat.mul_comm],q.down,q.ca,q.arm,q.da,q.aU,q.kp⟩
   cases har:D.ca with
   |true=>
    obtain ⟨e1,e2⟩:=q.arm har
    rw [if_pos rfl,if_pos rfl,e1]
    by_cases hz:D.after=0
    ·rw [if_pos hz,if_pos hz,e2]
     exact ⟨rfl,(lay _).off⟩
    ·rw [if_neg hz,if_neg hz]
     refine ⟨rfl,?_,q.down,har.symm,fun _=>⟨?_,e2⟩,q.da,q.aU,q.kp⟩
     ·exact (lay b).aW
     ·show IntKind.wrap .i64 (D.after-1)=D.after-1
      rw [bD (by omega) (by omega)]
   |false=>
    rw [if_neg (by decide),if_neg (by decide)]
    exact ⟨rfl,lay b⟩
  ·rw [if_neg hb,if_neg hb];exact ⟨rfl,q⟩
 ·rw [if_neg hf,if_neg hf];exact ⟨rfl,q⟩
end Go.Proofs.Ytcmfgmhadeeieaa

namespace Go.Proofs.Ytcmfgmhadeeieaa
open Go Go.Abs
theorem is102:cA Try.prog 102 Try.f102:=⟨by kernel_rfl,by kernel_rfl,by kernel_rfl,by kernel_rfl⟩
theorem is103:cA Try.prog 103 Try.f103:=⟨by kernel_rfl,by kernel_rfl,by kernel_rfl,by kernel_rfl⟩
theorem is72:cA Try.prog 72 Try.f72:=⟨by kernel_rfl,by kernel_rfl,by kernel_rfl,by kernel_rfl⟩
theorem take_snocN {l:List Nat} {i:Nat} (h:i<l.length):l.take (i+1)=l.take i ++ [l.getD i 0]:=by
 rw [List.take_add_one,List.getElem?_eq_getElem h,List.getD_eq_getElem?_getD,List.getElem?_eq_getElem h];rfl
theorem r102 {h:ah} {a:Option Addr} {n c:Nat} {l:List Nat} (e:av a n h=some l) (hn:n≤8):CD 102 [.slice a n c] h=some (.int .u64 ((be l:Nat):Int),h):=by
 obtain ⟨hl,hb,_⟩:=aw e
 have hll:cH (.slice a n c)=some (aq n):=rfl
 refine aO is102 rfl ((t102_eq _ _ _).trans ?_)
 unfold t102
 simp -implicitDefEqProofs only [af]
 refine cn (n:=20) (fin:=fun ex y g=>ex = .exit 0∧g=h∧y 3 = .int .u64 ((be l:Nat):Int)) (Q:=fun o:Out=>o=some (Value.int .u64 ((be l:Nat):Int),h))
  (cg (t102l102_11010_eq CD) (Inv:=fun k y g => ∃ i,i+k=n∧y 0 = .slice a n c∧y 4=aq i∧g=h∧y 3 = .int .u64 ((be (l.take i):Nat):Int)) ?_ n (by have:rounds=18446744073709551616:=rfl;omega) ⟨0,Nat.zero_add _,rfl,rfl,rfl,rfl⟩) ?_
 ·rintro k y g ⟨i,hik,y0,y4,rfl,y3⟩
  unfold t102l102_11010
  simp -implicitDefEqProofs only [y4,y0,af,hll,aj,fT]
  by_cases hi:i<n
  ·obtain ⟨b,p,_,i1,i2⟩:=byte_at (c:=c) e hi
   have hv:l.getD i 0<256:=by
    rw [List.getD_eq_getElem?_getD,List.getElem?_eq_getElem (by omega)]
    exact hb _ (List.getElem_mem _)
   have hbe:=be_lt i (l.take i) (by simp;omega) (fun x hx=>hb x (List.mem_of_mem_take hx))
   have hbe2:be (l.take i)<72057594037927936:=Nat.lt_of_lt_of_le hbe (Nat.le_trans (Nat.pow_le_pow_right (by decide) (show i≤7 by omega)) (by decide))
   obtain ⟨b1,b2⟩:=shl_or hbe2 hv
   have hw:IntKind.wrap .u64 ((l.getD i 0:Nat):Int)=((l.getD i 0:Nat):Int):=eQ (by omega) (by omega)
   simp -implicitDefEqProofs only [decide_eq_true hi,af,y3,b1,aj,i1,i2,u8,dg,hw,b2,ef (show i+1≤9223372036854775807 by omega)]
   refine cY.next (k-1) (by omega) ⟨i+1,by omega,y0,rfl,rfl,?_⟩
   rw [take_snocN (by omega),be_snoc];rfl
  ·have:i=n:=by omega
   subst this
   simp -implicitDefEqProofs only [decide_eq_false hi]
   exact cY.out 0 ⟨rfl,rfl,by rw [List.take_of_length_le (by omega)] at y3;exact y3⟩
 ·rintro ex z g ⟨rfl,rfl,z3⟩
  simp -implicitDefEqProofs only [bA,b102_4,if_true,t102k102_2_eq]
  unfold t102k102_2
  rw [z3]
  rfl
theorem xor_add {m:Nat} (hm:m<16) (q:Nat):16*q ^^^ m=16*q+m:=by
 apply Nat.eq_of_testBit_eq
 intro i
 have h1:=Nat.testBit_two_pow_mul_add (i:=4) (b:=m) q hm i
 rw [Nat.testBit_xor,show (16:Nat)=2^4 from rfl,h1,Nat.testBit_two_pow_mul]
 by_cases hi:i<4
 ·rw [if_pos hi,decide_eq_false (by omega),Bool.false_and,Bool.false_xor]
 ·rw [if_neg hi,decide_eq_true (by omega),Bool.true_and,Nat.testBit_lt_two_pow (Nat.lt_of_lt_of_le hm (Nat.pow_le_pow_right (n:=2) (by decide) (show 4≤i by omega))),Bool.xor_false]
theorem half_xor (a b:Nat):(a ^^^ b)/2=a/2 ^^^ b/2:=by
 have:=Nat.shiftRight_xor_distrib (a:=a) (b:=b) (i:=1)
 rw [Nat.shiftRight_eq_div_pow,Nat.shiftRight_eq_div_pow,Nat.shiftRight_eq_div_pow] at this
 exact this
theorem bit_xor (a b:Nat):cm (a ^^^ b)=cm a ^^^ cm b:=by
 unfold cm
 have hm:(a ^^^ b)%2=(a+b)%2:=by
  have h:=Nat.xor_mod_two_pow (a:=a) (b:=b) (n:=1)
  rw [show (2:Nat)^1=2 from rfl] at h
  rw [h]
  rcases Nat.mod_two_eq_zero_or_one a with ha|ha<;>rcases Nat.mod_two_eq_zero_or_one b with hb|hb<;>rw [ha,hb]<;>simp<;>omega
 rw [half_xor,hm]
 rcases Nat.mod_two_eq_zero_or_one a with ha|ha<;>rcases Nat.mod_two_eq_zero_or_one b with hb|hb
 ·rw [show (a+b)%2=0 by omega,ha,hb];simp
 ·rw [show (a+b)%2=1 by omega,ha,hb,Nat.mul_one,Nat.mul_zero,Nat.xor_zero,Nat.xor_assoc]
 ·rw [show (a+b)%2=1 by omega,ha,hb,Nat.mul_one,Nat.mul_zero,Nat.xor_zero,Nat.xor_assoc,Nat.xor_comm (b/2),Nat.xor_assoc]
 ·rw [show (a+b)%2=0 by omega,ha,hb,Nat.mul_one,Nat.mul_zero,Nat.xor_zero]
  generalize (0x82f63b78:Nat)=p
  rw [Nat.xor_assoc,←Nat.xor_assoc p,Nat.xor_comm p,Nat.xor_assoc,Nat.xor_self,Nat.xor_zero]
theorem bit_even (q:Nat):cm (2*q)=q:=by
 unfold cm
 rw [show 2*q/2=q by omega,show 2*q%2=0 by omega,Nat.mul_zero,Nat.xor_zero]
theorem bit4 (r:Nat):cm (cm (cm (cm r)))=gJ iQ r:=by
 have hr:r=16*(r/16) ^^^ r%16:=by rw [xor_add (by omega)];omega
 have h16:cm (cm (cm (cm (16*(r/16)))))=r/16:=by
  rw [show 16*(r/16)=2*(2*(2*(2*(r/16)))) by omega,bit_even,bit_even,bit_even,bit_even]
 calc cm (cm (cm (cm r)))=cm (cm (cm (cm (16*(r/16) ^^^ r%16)))):=by rw [←hr]
  _=cm (cm (cm (cm (16*(r/16))))) ^^^ cm (cm (cm (cm (r%16)))):=by rw [bit_xor,bit_xor,bit_xor,bit_xor]
  _=gJ iQ r:=by rw [h16,Nat.xor_comm];rfl
theorem bit_if (r:Nat):cm r=if r%2=1 then r/2 ^^^ 2197175160 else r/2:=by
 unfold cm
 rcases Nat.mod_two_eq_zero_or_one r with h|h
 ·rw [h,if_neg (by decide),Nat.mul_zero,Nat.xor_zero]
 ·rw [h,if_pos rfl,Nat.mul_one]
theorem crcIter8 (r x:Nat):fz (r ^^^ x) 8=fS r x:=by
 show cm (cm (cm (cm (cm (cm (cm (cm (r ^^^ x))))))))=gJ iQ (gJ iQ (r ^^^ x))
 rw [bit4,bit4]
theorem crc_in (X:Nat→Value) (g:ah) {c0:Nat} (hc:c0<4294967296) (x3:X 3=u32 c0) (x5:X 5=aq 0) :
  Fin 33 (fun ex y g'=>ex = .exit 2∧g'=g∧y 0=X 0∧y 4=X 4∧y 3=u32 (fz c0 8)) (iter (aI Try.prog CD (partOf Try.f103 [1,1,0,1,0,0,1,0,0,1,1,0,0])) rounds (aY 33 X) g):=by
 refine cg (t103l103_110100100110_eq CD) (Inv:=fun k y g' => ∃ i,i+k=8∧y 5=aq i∧g'=g∧y 0=X 0∧y 4=X 4∧y 3=u32 (fz c0 i)) ?_ 8 (by have:rounds=18446744073709551616:=rfl;omega) ⟨0,rfl,x5,rfl,rfl,rfl,x3⟩
 rintro k y g' ⟨i,hik,y5,rfl,y0,y4,y3⟩
 have hlss:bin Try.prog .lss 3 (aq i) (.int .i64 8)=some (.bool (decide (i<8))):=fT i 8
 unfold fO
 simp -implicitDefEqProofs only [y5,af,hlss,aj]
 by_cases hi:i<8
 ·have hci:=crcIter_lt hc i
  obtain ⟨o1,o2,_,_⟩:=crc_bit_ops hci
  have hx:=iv Try.prog 113 (k := .u32) rfl (a:=fz c0 i/2) (b:=2197175160) (by show _<2^32;omega) (by show _<2^32;omega)
  have hx':bin Try.prog .xor 113 (u32 (fz c0 i/2)) (.int .u32 2197175160)=some (u32 (fz c0 i/2 ^^^ 2197175160)):=hx
  have hnext:=bit_if (fz c0 i)
  rcases Nat.mod_two_eq_zero_or_one (fz c0 i) with hm|hm
  ·rw [hm,if_neg (by decide)] at hnext
   have he:bin Try.prog .eql 113 (u32 (fz c0 i%2)) (.int .u32 1)=some (.bool false):=by rw [hm];kernel_rfl
   simp -implicitDefEqProofs only [decide_eq_true hi,af,y3,o1,o2,he,aj,ef (show i+1≤9223372036854775807 by omega)]
   exact cY.next (k-1) (by omega) ⟨i+1,by omega,rfl,rfl,y0,y4,by show u32 _=u32 (cm (fz c0 i));rw [hnext]⟩
  ·rw [hm,if_pos rfl] at hnext
   have he:bin Try.prog .eql 113 (u32 (fz c0 i%2)) (.int .u32 1)=some (.bool true):=by rw [hm];kernel_rfl
   simp -implicitDefEqProofs only [decide_eq_true hi,af,y3,o1,o2,he,hx',aj,ef (show i+1≤9223372036854775807 by omega)]
   exact cY.next (k-1) (by omega) ⟨i+1,by omega,rfl,rfl,y0,y4,by show u32 _=u32 (cm (fz c0 i));rw [hnext]⟩
 ·have:i=8:=by omega
  subst this
  simp -implicitDefEqProofs only [decide_eq_false hi]
  exact cY.out 2 ⟨rfl,rfl,y0,y4,y3⟩
theorem r103 {h:ah} {a:Option Addr} {n c:Nat} {l:List Nat} (e:av a n h=some l) (hn:n≤1000000):CD 103 [.slice a n c] h=some (u32 (crcN l),h):=by
 obtain ⟨hl,hb,_⟩:=aw e
 have hll:cH (.slice a n c)=some (aq n):=rfl
 refine aO is103 rfl ((t103_eq _ _ _).trans ?_)
 unfold t103
 simp -implicitDefEqProofs only [af]
 refine cn (n:=33) (fin:=fun ex y g=>ex = .exit 0∧g=h∧y 3=u32 (l.foldl fS 4294967295)) (Q:=fun o:Out=>o=some (u32 (crcN l),h))
  (cg (t103l103_11010_eq CD) (Inv:=fun k y g => ∃ i,i+k=n∧y 0 = .slice a n c∧y 4=aq i∧g=h∧y 3=u32 ((l.take i).foldl fS 4294967295)) ?_ n (by have:rounds=18446744073709551616:=rfl;omega) ⟨0,Nat.zero_add _,rfl,rfl,rfl,rfl⟩) ?_
 ·rintro k y g ⟨i,hik,y0,y4,rfl,y3⟩
  unfold t103l103_11010
  simp -implicitDefEqProofs only [y4,y0,af,hll,aj,fT]
  by_cases hi:i<n
  ·obtain ⟨b,p,_,i1,i2⟩:=byte_at (c:=c) e hi
   have hv:l.getD i 0<256:=by
    rw [List.getD_eq_getElem?_getD,List.getElem?_eq_getElem (by omega)]
    exact hb _ (List.getElem_mem _)
   have hc:(l.take i).foldl fS 4294967295<4294967296:=crcFold_lt _ _ (by omega) (fun x hx=>hb x (List.mem_of_mem_take hx))
   have hw:IntKind.wrap .u32 ((l.getD i 0:Nat):Int)=((l.getD i 0:Nat):Int):=wrap_u32 (by omega) (by omega)
   have hx:=iv Try.prog 113 (k := .u32) rfl (a:=(l.take i).foldl fS 4294967295) (b:=l.getD i 0) hc (by show _<2^32;omega)
   have hx2:(l.take i).foldl fS 4294967295 ^^^ l.getD i 0<4294967296:=Nat.xor_lt_two_pow (n:=32) hc (by omega)
   simp -implicitDefEqProofs only [decide_eq_true hi,af,y3,aj,i1,i2,u8,dg,hw,hx]
   refine cn (crc_in _ g hx2 rfl rfl) ?_
   rintro ex z g' ⟨rfl,rfl,z0,z4,z3⟩
   simp -implicitDefEqProofs only [bA,b103_12,if_true,t103k103_8_eq]
   unfold t103k103_8
   have z4:z 4=aq i:=z4.trans y4
   simp -implicitDefEqProofs only [z4,af,aj,ef (show i+1≤9223372036854775807 by omega)]
   refine cY.next (k-1) (by omega) ⟨i+1,by omega,z0.trans y0,rfl,rfl,?_⟩
   show z 3=_
   rw [z3,crcIter8,take_snocN (by omega),List.foldl_append]
   rfl
  ·have:i=n:=by omega
   subst this
   simp -implicitDefEqProofs only [decide_eq_false hi]
   exact cY.out 0 ⟨rfl,rfl,by rw [List.take_of_length_le (by omega)] at y3;exact y3⟩
 ·rintro ex z g ⟨rfl,rfl,z3⟩
  simp -implicitDefEqProofs only [bA,b103_4,if_true,t103k103_2_eq]
  unfold t103k103_2
  simp -implicitDefEqProofs only [z3,af,unA_xor_u32 (crcFold_lt l 4294967295 (by omega) hb),aj]
  rfl
theorem r72 {h:ah} {a:Option Addr} {n c:Nat} {l:List Nat} (e:av a n h=some l) (hg:cQ a n c=true) (hn:n=128):CD 72 [.slice a n c] h=some (.bool (right l),h):=by
 subst hn
 obtain ⟨hl,hb,_⟩:=aw e
 have hle:=fH hg
 obtain ⟨a1,c1,s1,s2,s3⟩:=dP (lo:=0) (hi:=4) (vl:=none) (vh:=some (.int .i64 4)) hg e (by omega) (by omega) (by
  unfold bZ
  simp only
  rw [if_pos (by omega)];rfl) rfl
 obtain ⟨a2,c2,t1,t2,t3⟩:=dP (lo:=4) (hi:=128) (vl:=some (.int .i64 4)) (vh:=none) hg e (by omega) (by omega) rfl (by
  unfold bZ
  simp only
  rw [if_pos (by omega)];rfl)
 rw [List.drop_zero] at s2
 have ht:(l.drop 4).take (128-4)=l.drop 4:=List.take_of_length_le (by rw [List.length_drop];omega)
 rw [ht] at t2
 have e1:=r102 (c:=c1) s2 (by omega)
 have e2:=r103 (c:=c2) t2 (by omega)
 have hcr:=crcN_lt (l:=l.drop 4) (fun x hx=>hb x (List.mem_of_mem_drop hx))
 have hw:IntKind.wrap .u64 ((crcN (l.drop 4):Nat):Int)=((crcN (l.drop 4):Nat):Int):=eQ (by omega) (by omega)
 refine aO is72 rfl ((t72_eq _ _ _).trans ?_)
 unfold t72
 simp -implicitDefEqProofs only [af,s1,aj,e1,t1,e2,u32,dg,hw,eU]
 unfold right
 rw [←int_beq]
end Go.Proofs.Ytcmfgmhadeeieaa

namespace Go.Proofs.Ytcmfgmhadeeieaa
open Go Go.Abs
theorem is46:cA Try.prog 46 Try.f46:=⟨by kernel_rfl,by kernel_rfl,by kernel_rfl,by kernel_rfl⟩
theorem is96:cA Try.prog 96 Try.f96:=⟨by kernel_rfl,by kernel_rfl,by kernel_rfl,by kernel_rfl⟩
theorem is65:cA Try.prog 65 Try.f65:=⟨by kernel_rfl,by kernel_rfl,by kernel_rfl,by kernel_rfl⟩
theorem results96:Try.f96.results.toList = [.cell 4 118]:=by kernel_rfl
theorem results65:Try.f65.results.toList = [.tmp 2,.cell 3 118]:=by kernel_rfl
theorem ld118 (v:Value) (h:ah):ld Try.prog 118 v h=ch 3 v h:=by
 unfold ld
 rw [show aggT Try.prog 118=some true by kernel_rfl,show ei Try.prog 118=some 3 by kernel_rfl]
theorem mkF_at {n k:Nat} (hk:k<n) (x:Nat→Value):(aY n x).getD k undef=x k:=by
 unfold aY
 simp [hk]
theorem res_c {rs:List ResultVar} {n k t m:Nat} (hr:rs = [.cell k t]) (hk:k<n) (hld : ∀ v h,ld Try.prog t v h=ch m v h) (x:Nat→Value) {h:ah} {v:Value} (e:ch m (x k) h=some (v,h)):au Try.prog rs (aY n x) h=some (v,h):=by
 subst hr
 simp only [au,dS,mkF_at hk,hld,e]
 rfl
theorem res_tc {rs:List ResultVar} {n k t m q:Nat} (hr:rs = [.tmp q,.cell k t]) (hk:k<n) (hq:q<n) (hld : ∀ v h,ld Try.prog t v h=ch m v h) (x:Nat→Value) {h:ah} {v:Value} (e:ch m (x k) h=some (v,h)):au Try.prog rs (aY n x) h=some (.tuple #[x q,v],h):=by
 subst hr
 simp only [au,List.mapM_cons,List.mapM_nil,dS,mkF_at hk,mkF_at hq,hld,e]
 rfl
theorem iK {h:ah} {b n:Nat} {k k':dW} (g:h.get b=some k) (h0:h.n0≤b) (hl:k.length=n) (hl':k'.length=n) (ho:bK k'=true) (hh:Abs.cN k'=true) :
  cf n (ptr b 0) (.agg k'.toArray) h=some (undef,h.set b k')∧ch n (ptr b 0) (h.set b k')=some (.agg k'.toArray,h.set b k')∧(h.set b k').get b=some k'∧Kept h (h.set b k') (fun c=>c=b):=by
 have g':=ah.bI h0 g k'
 exact ⟨stN_whole g h0 hl hl' ho,cZ g' hl' hh,g',Kept.set h0 g (.inr rfl)⟩
def df (b:List Nat):dW:=if bB b=true then [.bool true,.int .u64 ((bc b:Nat):Int),aq (cW b)] else [.bool false,.int .u64 0,.int .i64 0]
theorem eD (b:List Nat):(df b).length=3:=by unfold df;split<;>rfl
theorem gh (b:List Nat):bK (df b)=true:=by unfold df;split<;>rfl
theorem ed (b:List Nat):Abs.cN (df b)=true:=by unfold df;split<;>rfl
theorem stol {b:List Nat} (hb : ∀ y∈b,y<256) (hl:b.length=128):((strOf ((b.drop 4).take 4)).toList==(⟨#[83,84,79,76]⟩:ByteArray).toList)=(be ((b.drop 4).take 4)==1398034252):=by
 have h1:(⟨#[83,84,79,76]⟩:ByteArray)=strOf [83,84,79,76]:=rfl
 have h2 : ∀ y∈(b.drop 4).take 4,y<256:=fun y hy=>hb y (List.mem_of_mem_drop (List.mem_of_mem_take hy))
 have hlen:((b.drop 4).take 4).length=4:=by rw [List.length_take,List.length_drop];omega
 rw [h1,strOf_inj h2 (by decide)]
 by_cases he:(b.drop 4).take 4 = [83,84,79,76]
 ·rw [he];rfl
 ·rw [decide_eq_false he]
  symm
  rw [beq_eq_false_iff_ne]
  intro h
  exact he (be_inj (by rw [hlen];rfl) h2 (by decide) (h.trans (by rfl)))
section
variable {h:ah} {F:Nat→Prop} {v:Value} {S:Rf} (x:cM h F v S) {D:Dk} (hi:S.aW=D.aW) (hl:D.aW.length=128*D.n) (h4:4≤D.n) (hn:D.n≤4096)
include x hi hl h4 hn
theorem r46 : ∃ h',CD 46 [v] h=some (aq D.ar,h')∧Old h h':=by
 have x':=x
 obtain ⟨a,c,g,rfl,b1,b2,b3,_⟩:=dZ x
 obtain ⟨g1,e51,o51⟩:=r51 (x'.bJ b3) (by rw [hi];omega)
 have e51:CD 51 [.agg (S.cells (.slice a S.aW.length c)).toArray] g=some (aq D.n,g1):=by rw [e51,hi,hl,Nat.mul_div_cancel_left _ (by decide)]
 have hsub:bin Try.prog .sub 3 (aq D.n) (.int .i64 2)=some (aq (D.n-2)):=sub3 (b:=2) (by omega) (by omega)
 have hquo:bin Try.prog .quo 3 (aq (D.n-2)) (.int .i64 2)=some (aq D.ar):=by
  rw [bin_quo _ _ _ _ _ (by decide)]
  have:((D.n-2:Nat):Int).tdiv 2=((D.ar:Nat):Int):=by rw [Int.tdiv_eq_ediv_of_nonneg (by omega)];rfl
  have har:D.ar=(D.n-2)/2:=rfl
  rw [this,bD (by omega) (by omega)]
 refine ⟨g1,aO is46 rfl ((t46_eq _ _ _).trans ?_),b3.trans o51⟩
 unfold t46
 simp -implicitDefEqProofs only [b1,af,gU b2 rfl (bH _ _ _ _),e51,hsub,hquo,aj]
theorem rblk {i:Nat} (hin:i<D.n) : ∃ a c h',CD 104 [v,aq i] h=some (.slice a 128 c,h')∧av a 128 h'=some (D.aX i)∧cQ a 128 c=true∧(∀ y,a=some y→h.next≤y.block)∧Old h h'∧(D.aX i).length=128:=by
 have hbl:=D.blk_len hl hin
 obtain ⟨w,h',e,ow,o⟩:=r104 x (by rw [hi];omega) (i:=i) (by rw [hi];omega)
 have hb:(S.aW.drop (128*i)).take 128=D.aX i:=by unfold Dk.aX;rw [hi,Nat.mul_comm]
 rw [hb] at ow
 obtain ⟨a,c,rfl,s1,s2,s3,_⟩:=ow.bytes
 rw [hbl] at e s1 s2
 exact ⟨a,c,h',e,s1,s2,s3,o,hbl⟩
set_option maxRecDepth 100000 in
theorem r96 {s:Nat} (hs:s<2) : ∃ h',CD 96 [v,aq s] h=some (.agg (df (D.aX s)).toArray,h')∧Old h h':=by
 have x':=x
 obtain ⟨a,c,g,rfl,b1,b2,b3,b4,_⟩:=dZ x
 have hn0:=h.aH
 have hnew:dB [(.bool false),(.int .u64 0),(.int .i64 0)] g=some (ptr g.next 0,g.alloc [(.bool false),(.int .u64 0),(.int .i64 0)]):=rfl
 have oz:Old g (g.alloc [(.bool false),(.int .u64 0),(.int .i64 0)]):=Kept.alloc _ _ _
 have gz:(g.alloc [(.bool false),(.int .u64 0),(.int .i64 0)]).get g.next=some [(.bool false),(.int .u64 0),(.int .i64 0)]:=by rw [ah.aE,if_pos rfl]
 have b2z:=Old.get oz b2
 generalize g.alloc [(.bool false),(.int .u64 0),(.int .i64 0)]=q0 at *
 have o0:=b3.trans oz
 obtain ⟨ab,cb,q1,e104,sb,gb,_,o1,hbl⟩:=rblk (x'.bJ o0) hi hl h4 hn (i:=s) (by omega)
 have hbyte:=(aw sb).2.1
 have e72:=r72 sb gb rfl
 have hle:=fH gb
 have o01:=o0.trans o1
 have gz1:=Old.get o1 gz
 have ldx:=gU b2z rfl (bH _ _ _ _)
 obtain ⟨a1,c1,s1,t1,_⟩:=dP (lo:=4) (hi:=8) (vl:=some (.int .i64 4)) (vh:=some (.int .i64 8)) gb sb (by omega) (by omega) (by unfold bZ;simp only;rw [if_pos (by omega)];rfl) (by unfold bZ;simp only;rw [if_pos (by omega)];rfl)
 have cv:=iO (c:=c1) t1
 obtain ⟨a2,c2,s2,t2,_⟩:=dP (lo:=8) (hi:=16) (vl:=some (.int .i64 8)) (vh:=some (.int .i64 16)) gb sb (by omega) (by omega) (by unfold bZ;simp only;rw [if_pos (by omega)];rfl) (by unfold bZ;simp only;rw [if_pos (by omega)];rfl)
 have e102:=r102 (c:=c2) t2 (by omega)
 obtain ⟨pb,pp,_,i1,i2⟩:=byte_at (c:=cb) sb (i:=16) (by omega)
 have i1:cd 1 (.slice ab 128 cb) (.int .i64 16)=some (ptr pb pp):=i1
 have hv:(D.aX s).getD 16 0<256:=by
  rw [List.getD_eq_getElem?_getD,List.getElem?_eq_getElem (by omega)]
  exact hbyte _ (List.getElem_mem _)
 have har:cW (D.aX s)=(D.aX s).getD 16 0:=by
  unfold cW
  have:((D.aX s).drop 16).take 1 = [(D.aX s).getD 16 0]:=by
   rw [List.getD_eq_getElem?_getD,List.getElem?_eq_getElem (by omega),List.drop_eq_getElem_cons (by omega)];rfl
  rw [this]
  simp [be]
 have hgt:bin Try.prog .gtr 5 (u8 ((D.aX s).getD 16 0)) (.int .u8 1)=some (.bool (decide (1<(D.aX s).getD 16 0))):=by
  rw [dM]
  exact congrArg (fun q=>some (Value.bool q)) (decide_eq_decide.2 (by omega))
 have hw:IntKind.wrap .i64 (((D.aX s).getD 16 0:Nat):Int)=(((D.aX s).getD 16 0:Nat):Int):=bD (by omega) (by omega)
 have bad:bB (D.aX s)=false→df (D.aX s) = [.bool false,.int .u64 0,.int .i64 0]:=fun h=>by unfold df;rw [h,if_neg (by decide)]
 have hn1:q1.n0≤g.next:=by rw [o01.n0];omega
 obtain ⟨p1,p2,p3,p4⟩:=iK (n:=3) gz1 hn1 rfl (eD (D.aX s)) (gh _) (ed _)
 have oo:Old h (q1.set g.next (df (D.aX s))):=o01.bS p4 (fun c hc e=>by omega)
 refine ⟨_,aO is96 rfl ((t96_eq _ _ _ _).trans ?_),oo⟩
 have hz:fU [(.bool false),(.int .u64 0),(.int .i64 0)] []=some (.agg #[(.bool false),(.int .u64 0),(.int .i64 0)]):=rfl
 unfold t96
 simp -implicitDefEqProofs only [b1,af,hnew,ldx,e104,e72,cC,aj,ay]
 cases hr:right (D.aX s) with
 |false=>
  have hb:=bad (by unfold bB;rw [hr];rfl)
  rw [hb] at p1 p2 ⊢
  simp -implicitDefEqProofs only [Bool.not_false,sf,aF,af,if_true,ay,hz,p1,aj]
  exact res_c (rs:=Try.f96.results.toList) (n:=33) results96 (by decide) ld118 _ p2
 |true=>
  simp -implicitDefEqProofs only [Bool.not_true,beq_self_eq_true,aA,af,s1,cv,aj,bin_str_neq,stol hbyte hbl,Bool.false_eq_true,if_false,ay]
  cases hm:(be (((D.aX s).drop 4).take 4)==1398034252) with
  |false=>
   have hb:=bad (by unfold bB;rw [hr,hm];rfl)
   rw [hb] at p1 p2 ⊢
   simp -implicitDefEqProofs only [Bool.not_false,sf,aF,af,if_true,ay,hz,p1,aj]
   exact res_c (rs:=Try.f96.results.toList) (n:=33) results96 (by decide) ld118 _ p2
  |true=>
   simp -implicitDefEqProofs only [Bool.not_true,beq_self_eq_true,aA,af,i1,i2,aj,hgt,Bool.false_eq_true,if_false,ay]
   by_cases hA:1<(D.aX s).getD 16 0
   ·have hb:=bad (by unfold bB;rw [har,decide_eq_false (by omega),Bool.and_false])
    rw [hb] at p1 p2 ⊢
    simp -implicitDefEqProofs only [decide_eq_true hA,hz,p1,aj,af]
    exact res_c (rs:=Try.f96.results.toList) (n:=33) results96 (by decide) ld118 _ p2
   ·have hok:bB (D.aX s)=true:=by unfold bB;rw [hr,hm,har,decide_eq_true (by omega)];rfl
    have hC:df (D.aX s) = [.bool true,.int .u64 ((bc (D.aX s):Nat):Int),aq ((D.aX s).getD 16 0)]:=by unfold df;rw [hok,if_pos rfl,har]
    rw [hC] at p1 p2 ⊢
    have hbl2:fU [(.bool false),(.int .u64 0),(.int .i64 0)] [(0,1,(.bool true)),(1,1,.int .u64 ((be (((D.aX s).drop 8).take (16-8)):Nat):Int)),(2,1,aq ((D.aX s).getD 16 0))]=some (.agg [.bool true,.int .u64 ((bc (D.aX s):Nat):Int),aq ((D.aX s).getD 16 0)].toArray):=rfl
    have hck1:cE true (some (u8 ((D.aX s).getD 16 0),q1)) (u8 ((D.aX s).getD 16 0))=true:=dJ rfl (by simp [veq])
    have hck2:cE true (some (aq ((D.aX s).getD 16 0),q1)) (aq ((D.aX s).getD 16 0))=true:=dJ rfl (by simp [veq])
    have cvi:cvI .i64 (u8 ((D.aX s).getD 16 0)) q1=some (aq ((D.aX s).getD 16 0),q1):=by rw [u8,dg,hw]
    simp -implicitDefEqProofs only [decide_eq_false hA,s2,aj,e102,af,i1,i2,cvi,hbl2,p1,hck1,hck2,Bool.and_true]
    exact res_c (rs:=Try.f96.results.toList) (n:=33) results96 (by decide) ld118 _ p2
end
end Go.Proofs.Ytcmfgmhadeeieaa

namespace Go.Proofs.Ytcmfgmhadeeieaa
open Go Go.Abs
theorem openJ_act (D:Dk) (t:Int):((D.cz t).slot,(D.cz t).gen,(D.cz t).ak) =
  if bB (D.aX 1)=true∧(bB (D.aX 0)=false∨bc (D.aX 0)<bc (D.aX 1)) then (1,bc (D.aX 1),cW (D.aX 1))
  else if bB (D.aX 0)=true then (0,bc (D.aX 0),cW (D.aX 0)) else (-1,0,0):=by
 have h:(D.cz t).un=_:=D.openJ_un t
 have h1:(D.cz t).slot=(D.cz t).un.slot:=rfl
 have h2:(D.cz t).gen=(D.cz t).un.gen:=rfl
 have h3:(D.cz t).ak=(D.cz t).un.ak:=rfl
 rw [h1,h2,h3,h]
 cases k1:bB (D.aX 1) with
 |false=>
  simp only [Bool.false_eq_true,if_false,false_and]
  cases k0:bB (D.aX 0) with
  |false=>rfl
  |true=>rw [if_pos rfl,if_pos rfl,Dk.jn0_take];rfl
 |true=>
  rw [if_pos rfl]
  cases k0:bB (D.aX 0) with
  |false=>rw [if_neg (by decide),if_pos ⟨rfl,.inl rfl⟩,Dk.jn0_take];rfl
  |true=>
   rw [if_pos rfl,Dk.jn0_take]
   by_cases hg:bc (D.aX 0)<bc (D.aX 1)
   ·rw [if_pos ⟨rfl,.inr hg⟩]
    unfold Jn.ct
    rw [if_pos (.inr hg)];rfl
   ·rw [if_neg (by rintro ⟨_,h|h⟩;cases h;exact hg h),if_pos rfl]
    unfold Jn.ct
    rw [if_neg (by rintro (h|h);exact absurd h (by show ¬(((0:Nat):Int)<0);decide);exact hg h)];rfl
section
variable {h:ah} {F:Nat→Prop} {v:Value} {S:Rf} (x:cM h F v S) {D:Dk} (hi:S.aW=D.aW) (hl:D.aW.length=128*D.n) (h4:4≤D.n) (hn:D.n≤4096)
include x hi hl h4 hn
set_option maxRecDepth 100000 in
theorem r65 (t:Int) : ∃ ok h',CD 65 [v] h=some (.tuple #[.int .i64 (D.cz t).slot,.agg #[.bool ok,.int .u64 (((D.cz t).gen:Nat):Int),aq (D.cz t).ak]],h')∧Old h h':=by
 have x':=x
 have hact:=openJ_act D t
 obtain ⟨a,c,g,rfl,b1,b2,b3,b4,_⟩:=dZ x
 have hn0:=h.aH
 have hnew : ∀ q:ah,dB [(.bool false),(.int .u64 0),(.int .i64 0)] q=some (ptr q.next 0,q.alloc [(.bool false),(.int .u64 0),(.int .i64 0)]):=fun _=>rfl
 have getz : ∀ q:ah,(q.alloc [(.bool false),(.int .u64 0),(.int .i64 0)]).get q.next=some [(.bool false),(.int .u64 0),(.int .i64 0)]:=fun q=>by rw [ah.aE,if_pos rfl]
 have oz:Old g (g.alloc [(.bool false),(.int .u64 0),(.int .i64 0)]):=Kept.alloc _ _ _
 have gz:=getz g
 have hn1:=hnew g
 have b2z:=Old.get oz b2
 have nz:(g.alloc [(.bool false),(.int .u64 0),(.int .i64 0)]).next=g.next+1:=ah.aS ..
 generalize g.alloc [(.bool false),(.int .u64 0),(.int .i64 0)]=q0 at *
 have o0:=b3.trans oz
 obtain ⟨q1,e1,o1⟩:=r96 (x'.bJ o0) hi hl h4 hn (s:=0) (by omega)
 obtain ⟨q2,e2,o2⟩:=r96 (x'.bJ (o0.trans o1)) hi hl h4 hn (s:=1) (by omega)
 have ld0:=gU b2z rfl (bH _ _ _ _)
 have ld1':=gU (Old.get o1 b2z) rfl (bH _ _ _ _)
 have nq1:=o1.next
 have nq2:=o2.next
 have gz2:=Old.get (o1.trans o2) gz
 have o02:=(o0.trans o1).trans o2
 have hn2:=hnew q2
 have o3:Old q2 (q2.alloc [(.bool false),(.int .u64 0),(.int .i64 0)]):=Kept.alloc _ _ _
 have g4:=getz q2
 have n3:(q2.alloc [(.bool false),(.int .u64 0),(.int .i64 0)]).next=q2.next+1:=ah.aS ..
 generalize q2.alloc [(.bool false),(.int .u64 0),(.int .i64 0)]=q3 at *
 have hn3:=hnew q3
 have o4:Old q3 (q3.alloc [(.bool false),(.int .u64 0),(.int .i64 0)]):=Kept.alloc _ _ _
 have g5:=getz q3
 have n4:(q3.alloc [(.bool false),(.int .u64 0),(.int .i64 0)]).next=q3.next+1:=ah.aS ..
 generalize q3.alloc [(.bool false),(.int .u64 0),(.int .i64 0)]=q4 at *
 have g44:=Old.get o4 g4
 have gz4:=Old.get (o3.trans o4) gz2
 have o04:=(o02.trans o3).trans o4
 have hle:q4.n0≤h.next:=by rw [o04.n0];exact hn0
 obtain ⟨s1,_,s3,s4⟩:=iK (n:=3) g44 (by omega) rfl (eD (D.aX 0)) (gh _) (ed _)
 have g55:=s4.dp g5 (by omega)
 have gz5:=s4.dp gz4 (by omega)
 have nn5:(q4.set q2.next (df (D.aX 0))).n0≤h.next:=by rw [s4.n0];exact hle
 have nx5:=s4.next
 generalize q4.set q2.next (df (D.aX 0))=q5 at *
 obtain ⟨t1,t2,t3,t4⟩:=iK (n:=3) g55 (by omega) rfl (eD (D.aX 1)) (gh _) (ed _)
 have g46:=t4.dp s3 (by omega)
 have gz6:=t4.dp gz5 (by omega)
 have nn6:(q5.set q3.next (df (D.aX 1))).n0≤h.next:=by rw [t4.n0];exact nn5
 generalize q5.set q3.next (df (D.aX 1))=q6 at *
 have o06:Old h q6:=(o04.bS s4 (fun c hc e=>by omega)).bS t4 (fun c hc e=>by omega)
 have hck:cE true (some (Value.agg (S.cells (.slice a S.aW.length c)).toArray,q0)) (.agg (S.cells (.slice a S.aW.length c)).toArray)=true:=dJ rfl (by simp [veq,veqL,Rf.cells])
 have e1:CD 96 [.agg (S.cells (.slice a S.aW.length c)).toArray,.int .i64 0] q0=some (.agg (df (D.aX 0)).toArray,q1):=e1
 have e2:CD 96 [.agg (S.cells (.slice a S.aW.length c)).toArray,.int .i64 1] q1=some (.agg (df (D.aX 1)).toArray,q2):=e2
 have fin : ∀ k':dW,k'.length=3→bK k'=true→Abs.cN k'=true → ∃ q7,cf 3 (ptr g.next 0) (.agg k'.toArray) q6=some (undef,q7)∧ch 3 (ptr g.next 0) q7=some (.agg k'.toArray,q7)∧Old h q7:=by
  intro k' k1 k2 k3
  obtain ⟨u1,u2,_,u4⟩:=iK (n:=3) gz6 (by omega) rfl k1 k2 k3
  exact ⟨_,u1,u2,o06.bS u4 (fun c hc e=>by omega)⟩
 have fb0 : ∀ b:List Nat,ba (ptr q2.next 0) q6=some (.bool (bB (D.aX 0)),q6):=fun _=>aN g46 (by unfold df;split<;>simp_all) rfl
 have fb1:ba (ptr q3.next 0) q6=some (.bool (bB (D.aX 1)),q6):=aN t3 (by unfold df;split<;>simp_all) rfl
 have fb0:=fb0 []
 have head : ∀ o:Out,t65 CD (.agg (S.cells (.slice a S.aW.length c)).toArray) h=o→o=o:=fun _ _=>rfl
 have uf:(aZ undef==some false)=false:=rfl
 cases k1:bB (D.aX 1) with
 |false=>
  rw [k1] at fb1 hact
  rw [if_neg (by simp)] at hact
  cases k0:bB (D.aX 0) with
  |false=>
   rw [k0] at fb0 hact
   rw [if_neg (by decide)] at hact
   simp only [Prod.mk.injEq] at hact
   obtain ⟨q7,u1,u2,u3⟩:=fin [.bool false,.int .u64 0,.int .i64 0] rfl rfl rfl
   refine ⟨false,q7,aO is65 rfl ((t65_eq _ _ _).trans ?_),u3⟩
   rw [hact.1,hact.2.1,hact.2.2]
   have hz:fU [(.bool false),(.int .u64 0),(.int .i64 0)] []=some (.agg [.bool false,.int .u64 0,.int .i64 0].toArray):=rfl
   unfold t65
   simp -implicitDefEqProofs only [b1,af,hn1,ld0,e1,ld1',e2,hn2,hn3,s1,t1,hck,Bool.and_true,ax,Nat.zero_add,aj,fb1,ay,fs,aF,uf,Bool.false_eq_true,if_false,fb0,hz,u1]
   exact res_tc (rs:=Try.f65.results.toList) (n:=29) results65 (by decide) (by decide) ld118 _ u2
  |true=>
   rw [k0] at fb0 hact
   rw [if_pos rfl] at hact
   simp only [Prod.mk.injEq] at hact
   have hC:df (D.aX 0) = [.bool true,.int .u64 ((bc (D.aX 0):Nat):Int),aq (cW (D.aX 0))]:=by unfold df;rw [k0,if_pos rfl]
   have ld4:=cZ g46 (eD _) (ed _)
   obtain ⟨q7,u1,u2,u3⟩:=fin (df (D.aX 0)) (eD _) (gh _) (ed _)
   refine ⟨true,q7,aO is65 rfl ((t65_eq _ _ _).trans ?_),u3⟩
   rw [hact.1,hact.2.1,hact.2.2]
   unfold t65
   simp -implicitDefEqProofs only [b1,af,hn1,ld0,e1,ld1',e2,hn2,hn3,s1,t1,hck,Bool.and_true,ax,Nat.zero_add,aj,fb1,ay,fs,aF,uf,Bool.false_eq_true,if_false,fb0,ld4,u1]
   rw [hC] at u2
   exact res_tc (rs:=Try.f65.results.toList) (n:=29) results65 (by decide) (by decide) ld118 _ u2
 |true=>
  rw [k1] at fb1 hact
  have hC1:df (D.aX 1) = [.bool true,.int .u64 ((bc (D.aX 1):Nat):Int),aq (cW (D.aX 1))]:=by unfold df;rw [k1,if_pos rfl]
  have ld5:=cZ t3 (eD _) (ed _)
  cases k0:bB (D.aX 0) with
  |false=>
   rw [k0] at fb0 hact
   rw [if_pos ⟨rfl,.inl rfl⟩] at hact
   simp only [Prod.mk.injEq] at hact
   obtain ⟨q7,u1,u2,u3⟩:=fin (df (D.aX 1)) (eD _) (gh _) (ed _)
   refine ⟨true,q7,aO is65 rfl ((t65_eq _ _ _).trans ?_),u3⟩
   rw [hact.1,hact.2.1,hact.2.2]
   unfold t65
   simp -implicitDefEqProofs only [b1,af,hn1,ld0,e1,ld1',e2,hn2,hn3,s1,t1,hck,Bool.and_true,ax,Nat.zero_add,aj,fb1,ay,beq_self_eq_true,aA,fb0,cC,Bool.not_false,sf,aF,if_true,ld5,u1]
   rw [hC1] at u2
   exact res_tc (rs:=Try.f65.results.toList) (n:=29) results65 (by decide) (by decide) ld118 _ u2
  |true=>
   rw [k0] at fb0 hact
   have hC0:df (D.aX 0) = [.bool true,.int .u64 ((bc (D.aX 0):Nat):Int),aq (cW (D.aX 0))]:=by unfold df;rw [k0,if_pos rfl]
   have l51:ba (ptr q3.next 1) q6=some (.int .u64 ((bc (D.aX 1):Nat):Int),q6):=aN t3 (by rw [hC1];rfl) rfl
   have l41:ba (ptr q2.next 1) q6=some (.int .u64 ((bc (D.aX 0):Nat):Int),q6):=aN g46 (by rw [hC0];rfl) rfl
   have hgt:bin Try.prog .gtr 58 (.int .u64 ((bc (D.aX 1):Nat):Int)) (.int .u64 ((bc (D.aX 0):Nat):Int))=some (.bool (decide (bc (D.aX 0)<bc (D.aX 1)))):=by
    rw [dM]
    exact congrArg (fun q=>some (Value.bool q)) (decide_eq_decide.2 (by omega))
   by_cases hg:bc (D.aX 0)<bc (D.aX 1)
   ·rw [if_pos ⟨rfl,.inr hg⟩] at hact
    simp only [Prod.mk.injEq] at hact
    obtain ⟨q7,u1,u2,u3⟩:=fin (df (D.aX 1)) (eD _) (gh _) (ed _)
    refine ⟨true,q7,aO is65 rfl ((t65_eq _ _ _).trans ?_),u3⟩
    rw [hact.1,hact.2.1,hact.2.2]
    unfold t65
    simp -implicitDefEqProofs only [b1,af,hn1,ld0,e1,ld1',e2,hn2,hn3,s1,t1,hck,Bool.and_true,ax,Nat.zero_add,aj,fb1,ay,beq_self_eq_true,aA,fb0,cC,Bool.not_true,Bool.false_eq_true,if_false,if_true,l51,l41,hgt,decide_eq_true hg,ld5,u1]
    rw [hC1] at u2
    exact res_tc (rs:=Try.f65.results.toList) (n:=29) results65 (by decide) (by decide) ld118 _ u2
   ·rw [if_neg (by rintro ⟨_,h|h⟩;cases h;exact hg h),if_pos rfl] at hact
    simp only [Prod.mk.injEq] at hact
    have ld4:=cZ g46 (eD _) (ed _)
    obtain ⟨q7,u1,u2,u3⟩:=fin (df (D.aX 0)) (eD _) (gh _) (ed _)
    refine ⟨true,q7,aO is65 rfl ((t65_eq _ _ _).trans ?_),u3⟩
    rw [hact.1,hact.2.1,hact.2.2]
    unfold t65
    simp -implicitDefEqProofs only [b1,af,hn1,ld0,e1,ld1',e2,hn2,hn3,s1,t1,hck,Bool.and_true,ax,Nat.zero_add,aj,fb1,ay,beq_self_eq_true,aA,fb0,cC,Bool.not_true,Bool.false_eq_true,if_false,if_true,l51,l41,hgt,decide_eq_false hg,ld4,u1]
    rw [hC0] at u2
    exact res_tc (rs:=Try.f65.results.toList) (n:=29) results65 (by decide) (by decide) ld118 _ u2
end
end Go.Proofs.Ytcmfgmhadeeieaa

namespace Go.Proofs.Ytcmfgmhadeeieaa
open Go Go.Abs
theorem is97:cA Try.prog 97 Try.f97:=⟨by kernel_rfl,by kernel_rfl,by kernel_rfl,by kernel_rfl⟩
theorem results97:Try.f97.results.toList = [.cell 6 152]:=by kernel_rfl
theorem ld152 (v:Value) (h:ah):ld Try.prog 152 v h=ch 5 v h:=by
 unfold ld
 rw [show aggT Try.prog 152=some true by kernel_rfl,show ei Try.prog 152=some 5 by kernel_rfl]
theorem slR_base {a a':Option Addr} {n c n' c':Nat} {vl vh:Option Value} (s:slR 1 (.slice a n c) vl vh none=some (.slice a' n' c')) : ∀ y,a'=some y → ∃ z,a=some z∧z.block=y.block:=by
 intro y hy
 subst hy
 cases a with
 |none=>
  simp only [slR,fh] at s
  split at s<;>cases s
 |some z=>
  refine ⟨z,rfl,?_⟩
  obtain ⟨b,off,t⟩:=z
  cases t with
  |none=>
   simp only [slR,fh] at s
   split at s<;>cases s
   rfl
  |some t=>
   simp only [slR,fh] at s
   split at s
   ·split at s
    ·cases s;rfl
    ·split at s
     ·cases s;rfl
     ·cases s
   ·cases s
def gj:dW := [(.bool false),(.int .u64 0),(.int .i64 0),(.int .i64 0),(.slice none 0 0)]
def logL (at_:Nat) (b:List Nat) (s:Value):dW:=if db at_ b=true then [.bool true,.int .u64 ((bG b:Nat):Int),aq (bz b),aq (aP b),s] else gj
theorem logL_len (at_:Nat) (b:List Nat) (s:Value):(logL at_ b s).length=5:=by unfold logL;split<;>rfl
theorem logL_one (at_:Nat) (b:List Nat) (a:Option Addr) (n c:Nat):bK (logL at_ b (.slice a n c))=true:=by unfold logL;split<;>rfl
theorem logL_hole (at_:Nat) (b:List Nat) (a:Option Addr) (n c:Nat):Abs.cN (logL at_ b (.slice a n c))=true:=by unfold logL;split<;>rfl
theorem zero5_plain : ∀ v∈gj,nat8 v=none:=by
 unfold gj
 intro v hv
 simp only [List.mem_cons,List.not_mem_nil,or_false] at hv
 rcases hv with rfl|rfl|rfl|rfl|rfl<;>rfl
section
variable {h:ah} {F:Nat→Prop} {v:Value} {S:Rf} (x:cM h F v S) {D:Dk} (hi:S.aW=D.aW) (hl:D.aW.length=128*D.n) (h4:4≤D.n) (hn:D.n≤4096)
include x hi hl h4 hn
set_option maxRecDepth 100000 in
theorem r97 {ak at_:Nat} (ha:ak≤1) (hat:at_<D.ar) : ∃ a n c h',CD 97 [v,aq ak,aq at_] h=some (.agg (logL at_ (D.jb ak at_) (.slice a n c)).toArray,h')∧Old h h'∧av a n h'=some (if db at_ (D.jb ak at_)=true then logData (D.jb ak at_) else [])∧cQ a n c=true∧(∀ y,a=some y→h.next≤y.block):=by
 have x':=x
 obtain ⟨a,c,g,rfl,b1,b2,b3,b4,_⟩:=dZ x
 have hn0:=h.aH
 have har:D.ar=(D.n-2)/2:=rfl
 have hm:ak*D.ar≤D.ar:=by
  have:=Nat.mul_le_mul_right D.ar ha
  omega
 have hin:2+ak*D.ar+at_<D.n:=by
  rcases Nat.le_one_iff_eq_zero_or_eq_one.1 ha with rfl|rfl<;>omega
 have hnew : ∀ q:ah,dB [(.bool false),(.int .u64 0),(.int .i64 0),(.int .i64 0),(.slice none 0 0)] q=some (ptr q.next 0,q.alloc gj):=fun _=>rfl
 have getz : ∀ q:ah,(q.alloc gj).get q.next=some gj:=fun q=>by rw [ah.aE,if_pos rfl]
 have oz:Old g (g.alloc gj):=Kept.alloc _ _ _
 have gz:=getz g
 have b2z:=Old.get oz b2
 have hnw:=hnew g
 have nz:(g.alloc gj).next=g.next+1:=ah.aS ..
 generalize g.alloc gj=q0 at *
 have o0:=b3.trans oz
 obtain ⟨q1,e46,o1⟩:=r46 (x'.bJ o0) hi hl h4 hn
 have hmul:bin Try.prog .mul 3 (aq ak) (aq D.ar)=some (aq (ak*D.ar)):=mul3 (by omega)
 have hadd1:bin Try.prog .add 3 (.int .i64 2) (aq (ak*D.ar))=some (aq (2+ak*D.ar)):=gY (a:=2) (by omega)
 have hadd2:bin Try.prog .add 3 (aq (2+ak*D.ar)) (aq at_)=some (aq (2+ak*D.ar+at_)):=gY (by omega)
 have b2y:=Old.get o1 b2z
 obtain ⟨ab,cb,q2,e104,sb,gb,fb,o2,hbl⟩:=rblk (x'.bJ (o0.trans o1)) hi hl h4 hn hin
 have hjb:D.aX (2+ak*D.ar+at_)=D.jb ak at_:=rfl
 rw [hjb] at sb hbl
 have e46:CD 46 [.agg (S.cells (.slice a S.aW.length c)).toArray] q0=some (aq D.ar,q1):=e46
 have e104:CD 104 [.agg (S.cells (.slice a S.aW.length c)).toArray,aq (2+ak*D.ar+at_)] q1=some (.slice ab 128 cb,q2):=e104
 have ld0:=gU b2z rfl (bH _ _ _ _)
 have ldy:=gU b2y rfl (bH _ _ _ _)
 have hck:cE true (some (Value.agg (S.cells (.slice a S.aW.length c)).toArray,q1)) (.agg (S.cells (.slice a S.aW.length c)).toArray)=true:=dJ rfl (by simp [veq,veqL,Rf.cells])
 have hbyte:=(aw sb).2.1
 have hle:=fH gb
 have gz2:=Old.get (o1.trans o2) gz
 have o02:=(o0.trans o1).trans o2
 generalize D.jb ak at_=b at *
 have sl : ∀ lo hi:Nat,lo≤hi→hi≤128 → ∃ a' c',slR 1 (.slice ab 128 cb) (some (.int .i64 (lo:Int))) (some (.int .i64 (hi:Int))) none=some (.slice a' (hi-lo) c')∧(∀ q,av ab 128 q=some b→av a' (hi-lo) q=some ((b.drop lo).take (hi-lo)))∧cQ a' (hi-lo) c'=true:=by
  intro lo hi h1 h2
  have bl:bZ 0 hi (some (.int .i64 (lo:Int)))=some lo:=by
   unfold bZ;simp only;rw [if_pos (by omega)];simp
  have bh:bZ 128 cb (some (.int .i64 (hi:Int)))=some hi:=by
   unfold bZ;simp only;rw [if_pos (by omega)];simp
  obtain ⟨a',c',s,t,u⟩:=dP gb sb h1 h2 bh bl
  refine ⟨a',c',s,fun q hq => ?_,u⟩
  obtain ⟨a2,c2,s2,t2,_⟩:=dP gb hq h1 h2 bh bl
  rw [s] at s2
  cases s2
  exact t2
 obtain ⟨a1,c1,s1,t1,_⟩:=sl 4 12 (by omega) (by omega)
 obtain ⟨a2,c2,s2,t2,_⟩:=sl 16 18 (by omega) (by omega)
 obtain ⟨a3,c3,s3,t3,_⟩:=sl 18 20 (by omega) (by omega)
 obtain ⟨a4,c4,s4,t4,_⟩:=sl 20 22 (by omega) (by omega)
 obtain ⟨a5,c5,s5,t5,_⟩:=sl 12 16 (by omega) (by omega)
 have s1:slR 1 (.slice ab 128 cb) (some (.int .i64 4)) (some (.int .i64 12)) none=some (.slice a1 (12-4) c1):=s1
 have s2:slR 1 (.slice ab 128 cb) (some (.int .i64 16)) (some (.int .i64 18)) none=some (.slice a2 (18-16) c2):=s2
 have s3:slR 1 (.slice ab 128 cb) (some (.int .i64 18)) (some (.int .i64 20)) none=some (.slice a3 (20-18) c3):=s3
 have s4:slR 1 (.slice ab 128 cb) (some (.int .i64 20)) (some (.int .i64 22)) none=some (.slice a4 (22-20) c4):=s4
 have s5:slR 1 (.slice ab 128 cb) (some (.int .i64 12)) (some (.int .i64 16)) none=some (.slice a5 (16-12) c5):=s5
 have e1:CD 102 [.slice a1 (12-4) c1] q2=some (.int .u64 ((bG b:Nat):Int),q2):=r102 (t1 _ sb) (by omega)
 have e2:CD 102 [.slice a2 (18-16) c2] q2=some (.int .u64 ((bz b:Nat):Int),q2):=r102 (t2 _ sb) (by omega)
 have e3:CD 102 [.slice a3 (20-18) c3] q2=some (.int .u64 ((aP b:Nat):Int),q2):=r102 (t3 _ sb) (by omega)
 have b16:bz b<65536:=be_lt 2 ((b.drop 16).take 2) (by simp;omega) fun y hy=>hbyte y (List.mem_of_mem_drop (List.mem_of_mem_take hy))
 have b18:aP b<65536:=be_lt 2 ((b.drop 18).take 2) (by simp;omega) fun y hy=>hbyte y (List.mem_of_mem_drop (List.mem_of_mem_take hy))
 have b20:cx b<65536:=be_lt 2 ((b.drop 20).take 2) (by simp;omega) fun y hy=>hbyte y (List.mem_of_mem_drop (List.mem_of_mem_take hy))
 have cv : ∀ (n:Nat) (q:ah),n<65536→cvI .i64 (.int .u64 (n:Int)) q=some (aq n,q):=fun n q hq=>by rw [dg,bD (by omega) (by omega)]
 have hcku : ∀ (n:Nat) (q:ah),cE true (some (aq n,q)) (aq n)=true:=fun n q=>dJ rfl (by simp [aq,veq])
 have hbld:fU [(.bool false),(.int .u64 0),(.int .i64 0),(.int .i64 0),(.slice none 0 0)] [(0,1,(.bool true)),(1,1,.int .u64 ((bG b:Nat):Int)),(2,1,aq (bz b)),(3,1,aq (aP b)),(4,1,(.slice none 0 0))]=some (.agg [.bool true,.int .u64 ((bG b:Nat):Int),aq (bz b),aq (aP b),.slice none 0 0].toArray):=rfl
 have hn2:=hnew q2
 have o3:Old q2 (q2.alloc gj):=Kept.alloc _ _ _
 have g8:=getz q2
 have n3:(q2.alloc gj).next=q2.next+1:=ah.aS ..
 have sb3:=Old.bytes o3 sb
 have gz3:=Old.get o3 gz2
 have o03:=o02.trans o3
 generalize q2.alloc gj=q3 at *
 have hnx:g.next<q2.next:=by have:=o1.next;have:=o2.next;omega
 have n0':q3.n0≤h.next:=by rw [o03.n0];exact hn0
 have hqg:h.next+1=g.next:=b4.symm
 obtain ⟨u1,u2,u3,u4⟩:=iK (n:=5) (k' := [.bool true,.int .u64 ((bG b:Nat):Int),aq (bz b),aq (aP b),.slice none 0 0]) g8 (by omega) rfl rfl rfl rfl
 have sb4:=u4.ea (fun y hy=>by subst hy;exact ⟨_,g8,zero5_plain⟩) sb3
 have gz4:=u4.dp gz3 (by omega)
 have o04:Old h _:=o03.bS u4 (fun y hy e=>by omega)
 generalize q3.set q2.next [.bool true,.int .u64 ((bG b:Nat):Int),aq (bz b),aq (aP b),.slice none 0 0]=q4 at *
 have n04:q4.n0≤h.next:=by rw [o04.n0];exact hn0
 have e4:CD 102 [.slice a4 (22-20) c4] q4=some (.int .u64 ((cx b:Nat):Int),q4):=r102 (t4 _ sb4) (by omega)
 have e5:CD 102 [.slice a5 (16-12) c5] q4=some (.int .u64 ((iM b:Nat):Int),q4):=r102 (t5 _ sb4) (by omega)
 have e72:CD 72 [.slice ab 128 cb] q4=some (.bool (right b),q4):=r72 sb4 gb rfl
 have cvu:cvI .u64 (aq at_) q4=some (.int .u64 (at_:Int),q4):=by rw [aq,dg,eQ (by omega) (by omega)]
 have l3:ba (ptr q2.next 3) q4=some (aq (aP b),q4):=aN u3 rfl
 have l2:ba (ptr q2.next 2) q4=some (aq (bz b),q4):=aN u3 rfl
 have hlss:bin Try.prog .lss 3 (aq (aP b)) (.int .i64 1)=some (.bool (decide (aP b<1))):=fT _ 1
 have hgtr:bin Try.prog .gtr 3 (aq (cx b)) (.int .i64 106)=some (.bool (decide (106<cx b))):=gtr3 _ 106
 have hz:fU [(.bool false),(.int .u64 0),(.int .i64 0),(.int .i64 0),(.slice none 0 0)] []=some (.agg gj.toArray):=rfl
 have key:(db at_ b=false → ∃ h',t97 CD (.agg (S.cells (.slice a S.aW.length c)).toArray) (aq ak) (aq at_) h=some (.agg gj.toArray,h')∧Old h h') ∧
   (db at_ b=true → ∃ a' n' c' h',t97 CD (.agg (S.cells (.slice a S.aW.length c)).toArray) (aq ak) (aq at_) h=some (.agg [.bool true,.int .u64 ((bG b:Nat):Int),aq (bz b),aq (aP b),.slice a' n' c'].toArray,h')∧Old h h'∧av a' n' h'=some (logData b)∧cQ a' n' c'=true∧(∀ y,a'=some y→h.next≤y.block)):=by
  obtain ⟨p1,p2,p3,p4⟩:=iK (n:=5) (k':=gj) gz4 (by omega) rfl rfl rfl rfl
  have oz4:Old h _:=o04.bS p4 (fun y hy e=>by omega)
  generalize q4.set g.next gj=qz at *
  have fin : ∀ (y:Nat→Value),y 6=ptr g.next 0→au Try.prog Try.f97.results.toList (aY 69 y) qz=some (.agg gj.toArray,qz):=fun y hy=>res_c results97 (by decide) ld152 y (by rw [hy];exact p2)
  have ndt:cx b≤106 → ∃ a6 c6,slR 1 (.slice ab 128 cb) (some (.int .i64 22)) (some (aq (22+cx b))) none=some (.slice a6 (22+cx b-22) c6)∧(∀ q,av ab 128 q=some b→av a6 (22+cx b-22) q=some (logData b))∧cQ a6 (22+cx b-22) c6=true∧(∀ y,a6=some y→h.next≤y.block):=by
   intro h6
   obtain ⟨a',c',s,t,u⟩:=sl 22 (22+cx b) (by omega) (by omega)
   refine ⟨a',c',s,fun q hq => ?_,u,?_⟩
   ·have:=t q hq
    rw [Nat.add_sub_cancel_left] at this ⊢
    rw [this]
    unfold logData
    rw [if_pos h6]
   ·intro y hy
    obtain ⟨z,hz,hb⟩:=slR_base s y hy
    have hz:=fb z hz
    have:=o0.next;have:=o1.next
    omega
  unfold t97
  simp -implicitDefEqProofs only [b1,af,hnw,ld0,e46,hmul,hadd1,hadd2,e104,hck,Bool.and_true,ldy,s1,s2,s3,s4,aj,e1,e2,e3,cv _ _ b16,cv _ _ b18,cv _ _ b20,hbld,hn2,u1,hcku,e4,e72,cC,ay]
  unfold db
  cases k1:right b with
  |false=>
   simp -implicitDefEqProofs only [Bool.not_false,sf,aF,af,if_true,ay,hz,p1,aj,Bool.false_and]
   exact ⟨fun _=>⟨qz,fin _ rfl,oz4⟩,fun h=>(by cases h)⟩
  |true=>
   simp -implicitDefEqProofs only [Bool.not_true,beq_self_eq_true,aA,af,s5,aj,e5,cvu,bin58n,Bool.false_eq_true,if_false,ay,Bool.true_and]
   cases k2:(iM b==at_) with
   |false=>
    simp -implicitDefEqProofs only [Bool.not_false,sf,aF,af,if_true,ay,hz,p1,aj,Bool.false_and]
    exact ⟨fun _=>⟨qz,fin _ rfl,oz4⟩,fun h=>(by cases h)⟩
   |true=>
    simp -implicitDefEqProofs only [Bool.not_true,beq_self_eq_true,aA,af,ax,Nat.zero_add,l3,hlss,aj,Bool.false_eq_true,if_false,ay,Bool.true_and]
    by_cases k3:aP b<1
    ·simp -implicitDefEqProofs only [decide_eq_true k3,decide_eq_false (show ¬1≤aP b by omega),sf,aF,af,if_true,ay,hz,p1,aj,Bool.false_and]
     exact ⟨fun _=>⟨qz,fin _ rfl,oz4⟩,fun h=>(by cases h)⟩
    ·simp -implicitDefEqProofs only [decide_eq_false k3,decide_eq_true (show 1≤aP b by omega),beq_self_eq_true,aA,af,ax,Nat.zero_add,l2,l3,geq3,aj,Bool.false_eq_true,if_false,ay,Bool.true_and]
     by_cases k4:aP b≤bz b
     ·simp -implicitDefEqProofs only [decide_eq_true k4,decide_eq_false (show ¬bz b<aP b by omega),sf,aF,af,if_true,ay,hz,p1,aj,Bool.false_and]
      exact ⟨fun _=>⟨qz,fin _ rfl,oz4⟩,fun h=>(by cases h)⟩
     ·simp -implicitDefEqProofs only [decide_eq_false k4,decide_eq_true (show bz b<aP b by omega),beq_self_eq_true,aA,af,hgtr,aj,Bool.false_eq_true,if_false,ay,Bool.true_and]
      by_cases k5:106<cx b
      ·simp -implicitDefEqProofs only [decide_eq_true k5,decide_eq_false (show ¬cx b≤106 by omega),af,hz,p1,aj]
       exact ⟨fun _=>⟨qz,fin _ rfl,oz4⟩,fun h=>(by cases h)⟩
      ·obtain ⟨a6,c6,s6,t6,g6,f6⟩:=ndt (by omega)
       have w1:cf 1 (ptr q2.next 4) (.slice a6 (22+cx b-22) c6) q4=some (undef,q4.set q2.next [.bool true,.int .u64 ((bG b:Nat):Int),aq (bz b),aq (aP b),.slice a6 (22+cx b-22) c6]):=dy u3 (by simp) (by omega) rfl rfl
       obtain ⟨w2,w3⟩:=eT (k' := [.bool true,.int .u64 ((bG b:Nat):Int),aq (bz b),aq (aP b),.slice a6 (22+cx b-22) c6]) u3 (by omega)
       have w4:=w2.dp gz4 (by omega)
       have pl8 : ∀ y,y=q2.next→dq q4 y:=fun y hy=>by
        subst hy
        refine ⟨_,u3,?_⟩
        intro v hv
        simp only [List.mem_cons,List.not_mem_nil,or_false] at hv
        rcases hv with rfl|rfl|rfl|rfl|rfl<;>rfl
       have sb5:=w2.ea pl8 sb4
       have o05:Old h _:=o04.bS w2 (fun y hy e=>by omega)
       generalize q4.set q2.next [.bool true,.int .u64 ((bG b:Nat):Int),aq (bz b),aq (aP b),.slice a6 (22+cx b-22) c6]=q5 at *
       have w5:=cZ (n:=5) w3 rfl rfl
       obtain ⟨v1,v2,v3,v4⟩:=iK (n:=5) (k' := [.bool true,.int .u64 ((bG b:Nat):Int),aq (bz b),aq (aP b),.slice a6 (22+cx b-22) c6]) w4 (by rw [o05.n0];omega) rfl rfl rfl rfl
       have sb6:=v4.ea (fun y hy=>by subst hy;exact ⟨_,w4,zero5_plain⟩) sb5
       have hadd:bin Try.prog .add 3 (.int .i64 22) (aq (cx b))=some (aq (22+cx b)):=gY (a:=22) (by omega)
       simp -implicitDefEqProofs only [decide_eq_false k5,decide_eq_true (show cx b≤106 by omega),af,hadd,s6,aj,ax,Nat.zero_add,w1,w5,v1]
       exact ⟨fun h=>(by cases h),fun _=>⟨a6,_,c6,_,res_c (rs:=Try.f97.results.toList) (n:=69) results97 (by decide) ld152 _ v2,o05.bS v4 (fun y hy e=>by omega),t6 _ sb6,g6,f6⟩⟩
 have e97 : ∀ r,t97 CD (.agg (S.cells (.slice a S.aW.length c)).toArray) (aq ak) (aq at_) h=some r→CD 97 [.agg (S.cells (.slice a S.aW.length c)).toArray,aq ak,aq at_] h=some r:=fun o ho=>aO is97 rfl ((t97_eq _ _ _ _ _).trans ho)
 cases hok:db at_ b with
 |false=>
  obtain ⟨h',k1,k2⟩:=key.1 hok
  refine ⟨none,0,0,h',(e97 _ k1).trans ?_,k2,rfl,rfl,fun y hy=>(by cases hy)⟩
  unfold logL
  rw [hok];rfl
 |true=>
  obtain ⟨a',n',c',h',k1,k2,k3,k4,k5⟩:=key.2 hok
  refine ⟨a',n',c',h',(e97 _ k1).trans ?_,k2,by rw [if_pos rfl];exact k3,k4,k5⟩
  unfold logL
  rw [hok];rfl
end
end Go.Proofs.Ytcmfgmhadeeieaa

