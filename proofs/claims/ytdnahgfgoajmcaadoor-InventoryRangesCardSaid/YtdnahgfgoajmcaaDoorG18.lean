/-
  A part of the proof, spaces and names shortened by a program (a claim may hold 1,500,000 bytes).
  Conditions: as each theorem states.
-/
import Derived.Test.YtdnahgfgoajmcaaDoorG17
namespace Go.Proofs.YtdnahgfgoajmcaaDoor
open Go Go.Abs
attribute [local congr] aq
def keyU (r:ao):List UInt8:=(keyB r).map UInt8.ofNat
def ek (a b:ao):Int:=Go.Lib.compareBytes (keyU a) (keyU b)
theorem bytesA_of {a:Option Addr} {n c:Nat} {h:ab} {l:List Nat} (e:au a n h=some l):bytesA (.slice a n c) h=some (l.map UInt8.ofNat):=by
 have hl:=(aE e).1
 have hf:=gD e (Nat.le_refl n) (c:=c)
 rw [List.take_of_length_le (by omega)] at hf
 unfold bytesA
 simp only [hf,Option.bind_some]
 exact mapM_asByte
theorem is66:cd Tryd.prog 66 Tryd.f66:=⟨by kernel_rfl,by kernel_rfl,by kernel_rfl,by kernel_rfl⟩
theorem is65:cd Tryd.prog 65 Tryd.f65:=⟨by kernel_rfl,by kernel_rfl,by kernel_rfl,by kernel_rfl⟩
theorem r66 {h:ab} (hG:4≤h.n0) {a b:Option Addr} {n m c d:Nat} {x y:List Nat} (hx:au a n h=some x) (hy:au b m h=some y) :
  CW 66 [.slice a n c,.slice b m d] h=some (.int .i64 (Go.Lib.compareBytes (x.map UInt8.ofNat) (y.map UInt8.ofNat)),h):=by
 have e:CW 119 [.slice a n c,.slice b m d] h=some (.int .i64 (Go.Lib.compareBytes (x.map UInt8.ofNat) (y.map UInt8.ofNat)),h):=CC_known (by
  show cmpS [.slice a n c,.slice b m d] h=_
  unfold cmpS
  simp only [bytesA_of hx,bytesA_of hy])
 refine aC is66 hG rfl ((t66_eq _ _ _ _).trans ?_)
 unfold t66
 simp -implicitDefEqProofs only [ad,e]
theorem r65 {h:ab} (hG:4≤h.n0) {a b:ao} (wa:a.Wf) (wb:b.Wf) : ∃ h',CW 65 [.agg (recC a).toArray,.agg (recC b).toArray] h=some (.int .i64 (ek a b),h')∧Old h h':=by
 obtain ⟨h1,b1,o1,g1,n1⟩:=dG h wa
 obtain ⟨h2,b2,o2,g2,n2⟩:=dG h1 wb
 have ca:=bg wa
 have cb:=bg wb
 have LA : ∀ g,Old h2 g→cT 39 (ptr h.next 0) g=some (.agg (recC a).toArray,g):=fun g o=>bh (Old.get o (o2.get g1)) ca.1 ca.2.1
 have LB : ∀ g,Old h2 g→cT 39 (ptr h1.next 0) g=some (.agg (recC b).toArray,g):=fun g o=>bh (Old.get o g2) cb.1 cb.2.1
 have G2:4≤h2.n0:=by rw [o2.n0,o1.n0];exact hG
 obtain ⟨p,c,h3,e3,s3,o3⟩:=r67 G2 wa
 have G3:4≤h3.n0:=by rw [o3.n0];exact G2
 obtain ⟨q,d,h4,e4,s4,o4⟩:=r67 G3 wb
 have G4:4≤h4.n0:=by rw [o4.n0];exact G3
 have e5:=r66 (c:=c) (d:=d) G4 (o4.bytes s3) s4
 refine ⟨h4,aC is65 hG rfl ((t65_eq _ _ _ _).trans ?_),((o1.trans o2).trans o3).trans o4⟩
 have ck:bN true (some (.agg (recC b).toArray,h2)) (.agg (recC b).toArray)=true:=chk_agg _ _ (cq wb).kinds
 unfold t65
 simp -implicitDefEqProofs only [b1,b2,ad,LA h2 (Kept.refl _ _),e3,LB h3 o3,e4,e5,LB h2 (Kept.refl _ _),ck,Bool.and_self]
 rfl
end Go.Proofs.YtdnahgfgoajmcaaDoor

namespace Go.Proofs.YtdnahgfgoajmcaaDoor
open Go Go.Abs
open Go.Lib (compareBytes)
theorem cb_cons (x y:UInt8) (a b:List UInt8):compareBytes (x::a) (y::b)=if x.toNat<y.toNat then -1 else if y.toNat<x.toNat then 1 else compareBytes a b:=by
 conv=>lhs;unfold compareBytes
 simp only [UInt8.lt_iff_toNat_lt]
theorem cb_self : ∀ a:List UInt8,compareBytes a a=0
 | []=>rfl
 |x::a=>by rw [cb_cons,if_neg (Nat.lt_irrefl _),if_neg (Nat.lt_irrefl _),cb_self a]
theorem cb_trans : ∀ a b c:List UInt8,compareBytes a b<0→compareBytes b c<0→compareBytes a c<0
 | [],[],_,h,_=>absurd h (by decide)
 | [],_::_,[],_,h=>absurd h (by show ¬(1:Int)<0;decide)
 | [],_::_,_::_,_,_=>by show (-1:Int)<0;decide
 |_::_,[],_,h,_=>absurd h (by show ¬(1:Int)<0;decide)
 |_::_,_::_,[],_,h=>absurd h (by show ¬(1:Int)<0;decide)
 |x::a,y::b,z::c,h1,h2=>by
  rw [cb_cons] at h1 h2 ⊢
  by_cases e1:x.toNat<y.toNat
  ·by_cases e2:y.toNat<z.toNat
   ·rw [if_pos (by omega)];decide
   ·rw [if_neg e2] at h2
    by_cases e3:z.toNat<y.toNat
    ·rw [if_pos e3] at h2;omega
    ·rw [if_pos (by omega)];decide
  ·rw [if_neg e1] at h1
   by_cases e4:y.toNat<x.toNat
   ·rw [if_pos e4] at h1;omega
   ·rw [if_neg e4] at h1
    by_cases e2:y.toNat<z.toNat
    ·rw [if_pos (by omega)];decide
    ·rw [if_neg e2] at h2
     by_cases e3:z.toNat<y.toNat
     ·rw [if_pos e3] at h2;omega
     ·rw [if_neg e3] at h2
      rw [if_neg (by omega),if_neg (by omega)]
      exact cb_trans a b c h1 h2
theorem cb_ntrans : ∀ a b c:List UInt8,¬compareBytes a b<0 → ¬compareBytes b c<0 → ¬compareBytes a c<0
 | [],[],[],_,_=>by decide
 | [],[],_::_,_,h=>absurd (by show (-1:Int)<0;decide) h
 | [],_::_,_,h,_=>absurd (by show (-1:Int)<0;decide) h
 |_::_,_,[],_,_=>by show ¬(1:Int)<0;decide
 |_::_,[],_::_,_,h=>absurd (by show (-1:Int)<0;decide) h
 |x::a,y::b,z::c,h1,h2=>by
  rw [cb_cons] at h1 h2 ⊢
  by_cases e1:x.toNat<y.toNat
  ·rw [if_pos e1] at h1;exact absurd (by decide) h1
  ·rw [if_neg e1] at h1
   by_cases e2:y.toNat<z.toNat
   ·rw [if_pos e2] at h2;exact absurd (by decide) h2
   ·rw [if_neg e2] at h2
    by_cases e4:y.toNat<x.toNat
    ·rw [if_neg (by omega),if_pos (by omega)];decide
    ·rw [if_neg e4] at h1
     by_cases e3:z.toNat<y.toNat
     ·rw [if_neg (by omega),if_pos (by omega)];decide
     ·rw [if_neg e3] at h2
      rw [if_neg (by omega),if_neg (by omega)]
      exact cb_ntrans a b c h1 h2
theorem cb_eq : ∀ a b:List UInt8,compareBytes a b=0→a=b
 | [],[],_=>rfl
 | [],_::_,h=>absurd h (by show ¬(-1:Int)=0;decide)
 |_::_,[],h=>absurd h (by show ¬(1:Int)=0;decide)
 |x::a,y::b,h=>by
  rw [cb_cons] at h
  by_cases e1:x.toNat<y.toNat
  ·rw [if_pos e1] at h;omega
  ·rw [if_neg e1] at h
   by_cases e2:y.toNat<x.toNat
   ·rw [if_pos e2] at h;omega
   ·rw [if_neg e2] at h
    rw [cb_eq a b h,UInt8.toNat_inj.1 (show x.toNat=y.toNat by omega)]
abbrev RecW:={ r:ao // r.Wf }
instance:Inhabited RecW:=⟨⟨ao.z,ao.z_wf⟩⟩
def eN (x:RecW):List Value:=recC x.1
def cfW (x y:RecW):Int:=ek x.1 y.1
theorem swoW:Go.Sort.SWO (Go.Proofs.ltOf cfW) where
 irrefl x:=by unfold Go.Proofs.ltOf cfW ek;rw [cb_self];rfl
 trans x y z h1 h2:=by
  unfold Go.Proofs.ltOf cfW ek at *
  simp only [decide_eq_true_eq] at *
  exact cb_trans _ _ _ h1 h2
 ntrans x y z h1 h2:=by
  unfold Go.Proofs.ltOf cfW ek at *
  simp only [decide_eq_false_iff_not] at *
  exact cb_ntrans _ _ _ h1 h2
theorem encW_len (x:RecW):(eN x).length=39:=(bg x.2).1
theorem encW_one (x:RecW) : ∀ v∈eN x,v.oneCell'=true:=fun v hv=>by
 have:=(cq x.2).all.2.1
 unfold aJ at this
 rw [List.all_eq_true] at this
 exact this v hv
end Go.Proofs.YtdnahgfgoajmcaaDoor

namespace Go.Proofs.YtdnahgfgoajmcaaDoor
open Go Go.Abs
open Go.Sort (flatK size_flatK get_flatK)
noncomputable def pdqL (L:List RecW):List RecW:=(Go.Sort.pdq (Go.Proofs.ltOf cfW) L.toArray 0 L.length (Go.Lib.bitLen L.length) true true).toList
theorem pdqL_facts (L:List RecW):(pdqL L).Perm L∧(pdqL L).length=L.length ∧ ∀ i j,i<j→(hj:j<L.length) → ¬ek ((pdqL L)[j]!).1 ((pdqL L)[i]!).1<0:=by
 have hs:L.toArray.size=L.length:=List.size_toArray ..
 obtain ⟨⟨p1,p2,p3⟩,q⟩:=Go.Sort.pdq_sorts (Go.Proofs.ltOf cfW) swoW L.toArray 0 L.length (Go.Lib.bitLen L.length) true true (Nat.zero_le _) (by omega) (.inl rfl)
 refine ⟨?_,?_,?_⟩
 ·have e1 : ∀ d:Array RecW,d.size=L.length→d.extract 0 L.length=d:=fun d hd=>by rw [←hd];exact Array.extract_size ..
  rw [e1 _ (by omega),e1 _ hs] at p3
  exact p3
 ·unfold pdqL
  rw [Array.length_toList,p1,hs]
 ·intro i j hij hj
  have:=q i j (Nat.zero_le _) hij hj
  have h2 : ¬cfW ((Go.Sort.pdq (Go.Proofs.ltOf cfW) L.toArray 0 L.length (Go.Lib.bitLen L.length) true true)[j]!) ((Go.Sort.pdq (Go.Proofs.ltOf cfW) L.toArray 0 L.length (Go.Lib.bitLen L.length) true true)[i]!)<0:=of_decide_eq_false this
  have e : ∀ (d:Array RecW) (t:Nat),d.toList[t]! = d[t]! := fun d t=>by
   simp [List.getElem!_eq_getElem?_getD,Array.getElem!_eq_getD,Array.getD_eq_getD_getElem?]
  unfold pdqL
  rw [e,e]
  exact h2
theorem flatW : ∀ (L:List RecW),L.flatMap eN=ba (L.map (·.1))
 | []=>rfl
 |x::L=>by
  have:=flatW L
  unfold ba at *
  rw [List.flatMap_cons,List.map_cons,List.flatMap_cons,this]
  rfl
theorem mapW_wf (L:List RecW) : ∀ p∈L.map (·.1),ao.Wf p:=fun p hp=>by
 obtain ⟨x,_,rfl⟩:=List.mem_map.1 hp
 exact x.2
theorem flatW_len (L:List RecW):(L.flatMap eN).length=L.length*39:=by
 rw [flatW,cG (mapW_wf L),List.length_map]
theorem flatK_list (L:List RecW):(flatK eN 39 L.toArray).toList=L.flatMap eN:=by
 have hs:L.toArray.size=L.length:=List.size_toArray ..
 refine List.ext_getElem? fun t => ?_
 by_cases ht:t<L.length*39
 ·have hj:t/39<L.length:=by omega
  have e1:(flatK eN 39 L.toArray).toList[t]? = some ((eN L.toArray[t/39]!)[t%39]!):=by
   have h1:t<(flatK eN 39 L.toArray).size:=by rw [size_flatK,hs];exact ht
   rw [Array.getElem?_toList,Array.getElem?_eq_getElem h1,←getElem!_pos (flatK eN 39 L.toArray) t h1,get_flatK _ _ _ _ (by rw [hs];exact ht)]
  rw [e1,flatW]
  have g:=recsC_get (mapW_wf L) (j:=t/39) (by rw [List.length_map];exact hj)
  have e2:(ba (L.map (·.1)))[t]? = (recC ((L.map (·.1)).getD (t/39) ao.z))[t%39]? := by
   rw [←g,List.getElem?_take,if_pos (Nat.mod_lt _ (by decide)),List.getElem?_drop]
   congr 1
   omega
  rw [e2]
  have e3:L.toArray[t/39]! = L[t/39]:=by rw [getElem!_pos L.toArray (t/39) (by omega)];simp
  have e4:(L.map (·.1)).getD (t/39) ao.z=(L[t/39]).1:=by
   rw [List.getD_eq_getElem?_getD,List.getElem?_map,List.getElem?_eq_getElem hj];rfl
  rw [e3,e4]
  have hl:t%39<(eN L[t/39]).length:=by rw [encW_len];exact Nat.mod_lt _ (by decide)
  rw [getElem!_pos (eN L[t/39]) (t%39) hl]
  exact (List.getElem?_eq_getElem hl).symm
 ·rw [List.getElem?_eq_none (by rw [Array.length_toList,size_flatK,hs];omega),List.getElem?_eq_none (by rw [flatW_len];omega)]
theorem flatW_flat (L:List RecW):flatAll (L.flatMap eN)=true∧aJ (L.flatMap eN)=true:=by
 constructor
 ·unfold flatAll
  rw [List.all_eq_true]
  intro v hv
  obtain ⟨x,_,hx⟩:=List.mem_flatMap.1 hv
  have:=(cq x.2).all.2.2
  unfold flatAll at this
  rw [List.all_eq_true] at this
  exact this v hx
 ·unfold aJ
  rw [List.all_eq_true]
  intro v hv
  obtain ⟨x,_,hx⟩:=List.mem_flatMap.1 hv
  exact encW_one x v hx
def SortOk (args:List Value) (h:ab) (b:Nat) (L:List RecW):Prop:=
 (∃ s,args = [.slice (some ⟨b,0,s⟩) L.length L.length,.func (.func 65) #[] #[]]∧(s=none∨(s=some 39∧L ≠ [])))∧h.n0≤b∧h.get b=some (L.flatMap eN)∧L.length<1099511627776
open Classical in
noncomputable def s64 (args:List Value) (h:ab):Out:=
 if x : ∃ b L,SortOk args h b L then some (.tuple #[],h.set x.choose ((pdqL x.choose_spec.choose).flatMap eN)) else none
theorem s64_spec {args:List Value} {h:ab} {r:Value×ab} (e:s64 args h=some r) : ∃ b L,SortOk args h b L∧r=(.tuple #[],h.set b ((pdqL L).flatMap eN)):=by
 unfold s64 at e
 split at e
 ·rename_i x
  cases e
  exact ⟨_,_,x.choose_spec.choose_spec,rfl⟩
 ·cases e
theorem pdqL_len (L:List RecW):(pdqL L).length=L.length:=(pdqL_facts L).2.1
end Go.Proofs.YtdnahgfgoajmcaaDoor

namespace Go.Proofs.YtdnahgfgoajmcaaDoor
open Go Go.Abs
open Go.Sort (flatK size_flatK get_flatK)
theorem enc_rel (μ:Mu) (x:RecW):aA μ (.agg (eN x).toArray) (.agg (eN x).toArray):=by
 refine .agg rfl fun i a b ha hb => ?_
 rw [ha] at hb
 cases hb
 have hf:=(cq x.2).all.2.2
 unfold flatAll at hf
 rw [List.all_eq_true] at hf
 exact .flat (hf a (List.mem_of_getElem? (by rw [List.getElem?_toArray] at ha;exact ha)))
theorem cmp_plain (W:World) (hg:Tryd.prog.globals.size≤W.heap.size) (x y:RecW) :
  Calls Tryd.prog 65 (#[.agg (eN x).toArray,.agg (eN y).toArray] ++ #[]) W fun e w'=>e = .returned (.int .i64 (cfW x y)) ∧ ∃ q os',w'=Go.Sort.grow (W.drewN q) os':=by
 obtain ⟨h',e,_⟩:=r65 (h:=cU W (view W)) (by rw [←globals4];exact hg) x.2 y.2
 have hb : ∀ x:RecW,bW W.heap.size (.agg (eN x).toArray)=true:=fun x=>by
  rw [gX]
  exact dE (cq x.2).all.2.2
 exact cw.call_plain (cw.of_CC prog_mixed XX_sound is65) is65.at_ is65.name (by kernel_rfl) [.agg (eN x).toArray,.agg (eN y).toArray] W hg (dr.2 (by
  intro v hv
  simp only [List.mem_cons,List.not_mem_nil,or_false] at hv
  rcases hv with rfl|rfl
  ·exact hb x
  ·exact hb y)) (.cons (enc_rel _ x) (.cons (enc_rel _ y) (.nil _))) _ rfl ⟨h',e⟩
theorem c64:cw Tryd.prog 64 s64:=by
 refine ⟨?_,?_,?_,?_⟩
 ·exact Nat.le_of_ble_eq_true (by kernel_rfl)
 ·intro args h v h' e
  obtain ⟨b,L,_,e2⟩:=s64_spec e
  cases e2
  exact ⟨Nat.le_refl _,rfl,rfl⟩
 ·intro args h v h' e hb hh
  obtain ⟨b,L,⟨_,h0,hg,_⟩,e2⟩:=s64_spec e
  cases e2
  refine ⟨rfl,?_⟩
  exact hh.putB (x:=some (.cells _)) h0 (h.aP hg) (fun k hk=>by cases hk;exact dE (flatW_flat _).1) (fun o ho=>by cases ho)
 ·intro args h v h' e hba hbh hg μ w args' S hf r
  obtain ⟨b,L,⟨⟨s,ha,hs⟩,h0,hgb,hsz⟩,e2⟩:=s64_spec e
  cases e2
  subst ha
  obtain ⟨Lc,arr,T,fr,m1,m2,m3,m4,m5,m6,m7,m8⟩:=S.new b _ h0 hgb
  have hl:(L.flatMap eN).length=L.length*39:=flatW_len L
  have hd:(flatK eN 39 L.toArray).size=L.length*39:=by rw [size_flatK];simp
  have hin:Lc.off+L.length*39≤arr.size:=by rw [m4,←hl,←m2];exact m5
  have harr:((arr.toList.drop Lc.off).take Lc.len)=L.flatMap eN:=m8.bD (flatW_flat L).1
  have hcell : ∀ j,j<L.length*39→arr[Lc.off+j]? = some (flatK eN 39 L.toArray)[j]! := by
   intro j hj
   have e1:(L.flatMap eN)[j]? = some (flatK eN 39 L.toArray)[j]! := by
    rw [←flatK_list,Array.getElem?_toList,Array.getElem?_eq_getElem (by rw [hd];exact hj),getElem!_pos _ j (by rw [hd];exact hj)]
   rw [←harr,List.getElem?_take,if_pos (by rw [m2,hl];exact hj),List.getElem?_drop,Array.getElem?_toList] at e1
   exact e1
  have hW:Go.Sort.HoldsK eN 39 w Lc.cx Lc.off L.toArray:=by
   intro j hj
   rw [hd] at hj
   refine ⟨?_,?_⟩
   ·unfold World.cell?
    rw [m3]
    exact hcell j hj
   ·unfold World.frozen?
    rw [m3]
    obtain ⟨lo,hi⟩:=fr
    show (decide (lo≤Lc.off+j)&&decide (Lc.off+j<hi))=false
    rcases m6 with m6|m6
    ·have m6:lo=hi:=m6
     simp only [Bool.and_eq_false_iff,decide_eq_false_iff_not]
     omega
    ·have m6:arr.size≤lo:=m6
     simp only [Bool.and_eq_false_iff,decide_eq_false_iff_not]
     omega
  have hblk:Lc.cx<w.heap.size:=(Array.getElem?_eq_some_iff.1 m3).1
  have hlays:Go.Proofs.CmpLays Tryd.prog 65 #[] eN 39 cfW Lc.cx Lc.off L.toArray.size w:=by
   intro m os dk _ x y
   exact cmp_plain _ (Nat.le_trans (Nat.le_trans hg S.size) (Go.Proofs.size_sortWorldK_c ..)) x y
  have key : ∀ cap,Calls Tryd.prog 64 #[.slice (some ⟨Lc.cx,Lc.off,none⟩) L.length cap,.func (.func 65) #[] #[]] w (After μ h w (.tuple #[]) (h.set b ((pdqL L).flatMap eN))):=by
   intro cap
   have q:=Go.Proofs.AnyQ.slices_SortFunc_eq sortL 39 (fun w=>by kernel_rfl) (fun w=>by kernel_rfl) eN encW_len encW_one cfW swoW 65 #[] Lc.cx Lc.off cap L.toArray w (Go.Proofs.enters_of is65.at_ is65.name (Option.some_get is65.some_).symm) hlays hW hblk (by rw [List.size_toArray];omega)
   rw [List.size_toArray] at q
   refine q.mono ?_
   rintro e w' ⟨rfl,n,os,rfl⟩
   have hp:(flatK eN 39 (Go.Sort.pdq (Go.Proofs.ltOf cfW) L.toArray 0 L.length (Go.Lib.bitLen L.length) true true)).toList=(pdqL L).flatMap eN:=by
    rw [←flatK_list]
    rfl
   have hs2:(flatK eN 39 (Go.Sort.pdq (Go.Proofs.ltOf cfW) L.toArray 0 L.length (Go.Lib.bitLen L.length) true true)).size=(L.flatMap eN).length:=by
    rw [←Array.length_toList,hp,flatW_len,flatW_len,pdqL_len]
   obtain ⟨s1,s2⟩:=sim_sorted Tryd.prog S h0 hgb hs2 (by rw [hp];exact List.all_eq_true.1 (flatW_flat _).1) (by rw [hp];exact (flatW_flat _).2) (n:=n) (os:=os) m1
   rw [hp] at s1 s2
   exact ⟨μ,_,rfl,s1,s2,.tuple rfl (by intro i x y hx;simp at hx)⟩
  have hfin : ∀ cap,Runs Tryd.prog 64 #[.slice (some ⟨Lc.cx,Lc.off,none⟩) L.length cap,.func (.func 65) #[] #[]] w (After μ h w (.tuple #[]) (h.set b ((pdqL L).flatMap eN))):=fun cap=>
   .inl ⟨Tryd.f64,by kernel_rfl,by kernel_rfl,by kernel_rfl,key cap⟩
  obtain ⟨rl,rg⟩:=r
  match args',rl,rg with
  | [a',f'],_,rg=>
    have ra:=rg 0 _ _ rfl rfl
    have rf:=rg 1 _ _ rfl rfl
    have ef:f' = .func (.func 65) #[] #[]:=rf.bD rfl
    subst ef
    have ea : ∃ cap,a' = .slice (some ⟨Lc.cx,Lc.off,none⟩) L.length cap:=by
     generalize ev:Value.slice (some ⟨b,0,s⟩) L.length L.length=v at ra
     cases ra with
     |flat hh=>subst ev;cases hh
     |slice hh=>cases ev;rw [m1] at hh;cases hh;exact ⟨_,rfl⟩
     |hid hh=>cases ev;rw [m1] at hh;cases hh;exact ⟨_,rfl⟩
     |hemp hh=>
      injection ev with e1 e2 e3
      rcases hs with rfl|⟨_,hne⟩
      ·cases e1
      ·exact absurd (List.length_eq_zero_iff.1 e2) hne
     |zer=>
      injection ev with e1 e2 e3
      rcases hs with rfl|⟨_,hne⟩
      ·cases e1
      ·exact absurd (List.length_eq_zero_iff.1 e2) hne
     |_=>cases ev
    obtain ⟨cap,rfl⟩:=ea
    exact hfin cap
end Go.Proofs.YtdnahgfgoajmcaaDoor

namespace Go.Proofs.YtdnahgfgoajmcaaDoor
open Go Go.Abs
theorem map98:mapT Tryd.prog 98=some (101,58):=by kernel_rfl
theorem zero58:zeroT Tryd.prog 58=some (.agg (recC ao.z).toArray):=by kernel_rfl
abbrev plV (r:ao):Value := .agg (atC r).toArray
abbrev dB (r:ao):Value := .agg (recC r).toArray
theorem eqA_pl {a b:ao} (wa:a.Wf) (wb:b.Wf):eqA Tryd.prog 101 (plV a) (plV b)=some (atB a b):=by
 obtain ⟨r,hr,hrun⟩:=dig_run (d:=9997) (cF wa.obj) (cF wb.obj)
 have l1:(aV a.obj).length=32:=by rw [List.length_map];exact wa.obj.1
 have l2:(aV b.obj).length=32:=by rw [List.length_map];exact wb.obj.1
 have hr':r=decide (a.obj=b.obj):=by
  by_cases e:a.obj=b.obj
  ·rw [decide_eq_true e,hr.2 (by rw [e])]
  ·rw [decide_eq_false e]
   cases r with
   |false=>rfl
   |true=>exact absurd (u8s_inj (hr.1 rfl)) e
 have hp:bT Tryd.prog (Op.equalIn 10000 101 (.agg (atC a).toArray) (.agg (atC b).toArray))=some (atB a b):=by
  unfold atC
  rw [pr_eq_struct (P:=Tryd.prog) (d:=9999) Tryd.underlying101 (by kernel_rfl)]
  simp only [eqF]
  rw [if_pos (by decide),if_pos (by decide),if_pos (by decide)]
  rw [bY (v := .int .u8 (a.kind:Int)) Tryd.underlying56 rfl,bY (v := .int .u8 (b.kind:Int)) Tryd.underlying56 rfl,pr_part_arr Tryd.underlying35 fK,pr_part_arr Tryd.underlying35 fK,rec_obj l1,rec_obj l2]
  rw [bY (v := .int .i64 a.aH) Tryd.underlying3 (at_at l1),bY (v := .int .i64 b.aH) Tryd.underlying3 (at_at l2)]
  simp only [Option.bind_some,pr_eq_int (d:=9998) Tryd.underlying56,pr_eq_int (d:=9998) Tryd.underlying3,hrun,hr']
  unfold atB
  by_cases e1:a.kind=b.kind<;>by_cases e2:a.obj=b.obj<;>by_cases e3:a.aH=b.aH<;>simp [e1,e2,e3]
  all_goals omega
 unfold eqA
 rw [if_pos (by rw [dg (at_typed wa).all.2.2,dg (at_typed wb).all.2.2];rfl)]
 exact hp
theorem gg {a b:ao}:atB a b=true↔a.kind=b.kind∧a.obj=b.obj∧a.aH=b.aH:=by
 unfold atB
 simp [Bool.and_eq_true,decide_eq_true_eq]
theorem atC_of {a b:ao} (h:atB a b=true):atC a=atC b:=by
 obtain ⟨h1,h2,h3⟩:=gg.1 h
 unfold atC
 rw [h1,h2,h3]
theorem agg56:aggT Tryd.prog 56=some false:=by kernel_rfl
theorem agg3:aggT Tryd.prog 3=some false:=by kernel_rfl
theorem agg5:aggT Tryd.prog 5=some false:=by kernel_rfl
theorem siz35:cz Tryd.prog 35=some 32:=by kernel_rfl
theorem siz56:cz Tryd.prog 56=some 1:=by kernel_rfl
theorem siz3:cz Tryd.prog 3=some 1:=by kernel_rfl
theorem siz5:cz Tryd.prog 5=some 1:=by kernel_rfl
theorem key_ok {r:ao} (w:r.Wf):(fQ Tryd.prog 10000 101 (plV r)&&ground (plV r))=true:=by
 rw [show ground (plV r)=true from dg (at_typed w).all.2.2,Bool.and_true]
 have l1:(aV r.obj).length=32:=by rw [List.length_map];exact w.obj.1
 have hk : ∀ (n:Nat) (v:Value),fQ Tryd.prog (n+1) 56 v=true:=fun n v=>by unfold fQ;simp only [Tryd.underlying56]
 have h3 : ∀ (n:Nat) (v:Value),fQ Tryd.prog (n+1) 3 v=true:=fun n v=>by unfold fQ;simp only [Tryd.underlying3]
 have h5 : ∀ (n:Nat) (v:Value),fQ Tryd.prog (n+1) 5 v=true:=fun n v=>by unfold fQ;simp only [Tryd.underlying5]
 have h35:fQ Tryd.prog 9999 35 (.agg (aV r.obj).toArray)=true:=by
  unfold fQ
  simp only [Tryd.underlying35,siz5]
  rw [List.all_eq_true]
  intro i hi
  have hi:i<32:=by simpa using hi
  unfold partA
  simp only [agg5,siz5,Nat.mul_one]
  rw [List.getElem?_toArray,List.getElem?_eq_getElem (by omega)]
  exact h5 _ _
 have p1:partA Tryd.prog 56 (atC r).toArray 0=some (.int .u8 (r.kind:Int)):=by
  unfold partA
  simp only [agg56,siz56]
  rfl
 have p2:partA Tryd.prog 35 (atC r).toArray 1=some (.agg (aV r.obj).toArray):=by
  unfold partA
  simp only [agg35,siz35]
  unfold atC
  rw [rec_obj l1]
 have p3:partA Tryd.prog 3 (atC r).toArray 33=some (.int .i64 r.aH):=by
  unfold partA
  simp only [agg3,siz3]
  unfold atC
  exact at_at l1
 unfold fQ
 simp only [Tryd.underlying101,List.all_cons,List.all_nil,p1,p2,p3,hk,h35,h3,Bool.and_self]
theorem bits_self {l:List Value} (h : ∀ v∈l,∃ k:Kd,k.has v):Instr.sameBits 10000 (.agg l.toArray) (.agg l.toArray)=true:=by
 show (l.toArray.size==l.toArray.size&&(l.zip l).all fun (x,y)=>Instr.sameBits 9999 x y)=true
 rw [beq_self_eq_true,Bool.true_and,List.all_eq_true]
 rintro ⟨x,y⟩ hm
 have hxy:x=y∧x∈l:=by
  obtain ⟨i,hi⟩:=List.mem_iff_getElem?.1 hm
  rw [List.getElem?_zip_eq_some] at hi
  have h1:=hi.1
  have h2:=hi.2
  simp only at h1 h2
  rw [h1] at h2
  cases h2
  exact ⟨rfl,List.mem_of_getElem? h1⟩
 obtain ⟨rfl,hx⟩:=hxy
 obtain ⟨k,hk⟩:=h x hx
 show Instr.sameBits 9999 x x=true
 cases k with
 |u8=>obtain ⟨n,rfl,_⟩:=hk;simp [Instr.sameBits]
 |i k=>obtain ⟨n,rfl,_⟩:=hk;simp [Instr.sameBits]
 |b=>obtain ⟨t,rfl⟩:=hk;simp [Instr.sameBits]
def gm:List ao→Nat→List (Value×Value×Nat)
 | [],_ => []
 |r::M,i=>(plV r,dB r,i)::gm M (i+1)
theorem esOf_len : ∀ (M:List ao) (i:Nat),(gm M i).length=M.length
 | [],_=>rfl
 |r::M,i=>by simp [gm,esOf_len M]
theorem esOf_get : ∀ (M:List ao) (i j:Nat) (hj:j<M.length),(gm M i)[j]? = some (plV M[j],dB M[j],i+j)
 |r::M,i,0,_=>rfl
 |r::M,i,j+1,hj=>by
  show (gm M (i+1))[j]? = _
  rw [esOf_get M (i+1) j (by simpa using hj)]
  simp only [List.getElem_cons_succ]
  congr 3
  omega
theorem esOf_app : ∀ (M N:List ao) (i:Nat),gm (M++N) i=gm M i++gm N (i+M.length)
 | [],N,i=>by simp [gm]
 |r::M,N,i=>by
  simp only [List.cons_append,gm,esOf_app M N (i+1),List.length_cons]
  congr 3
  omega
def idx (r:ao):List ao→Option Nat
 | []=>none
 |x::M=>if atB r x=true then some 0 else (idx r M).map (· + 1)
def fnd (r:ao) (M:List ao):Option ao:=M.find? (atB r)
theorem idx_some {r:ao} : ∀ {M:List ao} {i:Nat},idx r M=some i → ∃ hi:i<M.length,atB r M[i]=true∧fnd r M=some M[i]
 | [],i,h=>by cases h
 |x::M,i,h=>by
  unfold idx at h
  by_cases e:atB r x=true
  ·rw [if_pos e] at h
   cases h
   exact ⟨by simp,e,by unfold fnd;rw [List.find?_cons_of_pos e];rfl⟩
  ·rw [if_neg e] at h
   cases hq:idx r M with
   |none=>rw [hq] at h;cases h
   |some j=>
    rw [hq] at h
    cases h
    obtain ⟨hj,h1,h2⟩:=idx_some hq
    refine ⟨by simpa using hj,by simpa using h1,?_⟩
    unfold fnd at h2 ⊢
    rw [List.find?_cons_of_neg e,h2]
    simp
theorem idx_none {r:ao} : ∀ {M:List ao},idx r M=none→fnd r M=none
 | [],_=>rfl
 |x::M,h=>by
  unfold idx at h
  by_cases e:atB r x=true
  ·rw [if_pos e] at h;cases h
  ·rw [if_neg e] at h
   have h2:idx r M=none:=by
    cases hq:idx r M with
    |none=>rfl
    |some j=>rw [hq] at h;cases h
   unfold fnd
   rw [List.find?_cons_of_neg e]
   exact idx_none h2
theorem find_es {r:ao} (w:r.Wf) : ∀ (M:List ao) (i j:Nat),(∀ x∈M,x.Wf)→findA Tryd.prog 101 (plV r) (gm M i) j=some ((idx r M).map fun k=>(j+k,dB (M.getD k ao.z)))
 | [],_,_,_=>rfl
 |x::M,i,j,h=>by
  unfold gm findA idx
  rw [eqA_pl w (h x List.mem_cons_self)]
  cases e:atB r x with
  |true=>rfl
  |false=>
   simp only [Bool.false_eq_true,if_false]
   rw [find_es w M (i+1) (j+1) fun y hy=>h y (List.mem_cons_of_mem _ hy)]
   cases idx r M with
   |none=>rfl
   |some k=>
    simp only [Option.map_some,List.getD_cons_succ]
    congr 3
    omega
def MapH (h:ab) (b:Nat) (M:List ao):Prop:=h.aF b=some (.obj (.map (gm M 0) M.length)) ∧ ∀ x∈M,x.Wf
theorem recG {r:ao} (w:r.Wf):ground (dB r)=true:=dg (cq w).all.2.2
theorem lk_true {h:ab} {b:Nat} {M:List ao} (m:MapH h b M) {r:ao} (w:r.Wf) :
  fk Tryd.prog 98 (.map (some b)) (plV r) true h=some (.tuple #[dB ((fnd r M).getD ao.z),.bool (fnd r M).isSome],h):=by
 unfold fk entriesA
 simp only [map98,m.1,key_ok w,if_true,find_es w M 0 0 m.2,zero58]
 cases hq:idx r M with
 |none=>
  rw [idx_none hq]
  simp only [Option.map_none,recG ao.z_wf,if_true]
  rfl
 |some i=>
  obtain ⟨hi,_,e⟩:=idx_some hq
  rw [e]
  simp only [Option.map_some,List.getD_eq_getElem?_getD,List.getElem?_eq_getElem hi,Option.getD_some]
  rfl
theorem lk_false {h:ab} {b:Nat} {M:List ao} (m:MapH h b M) {r:ao} (w:r.Wf) :
  fk Tryd.prog 98 (.map (some b)) (plV r) false h=some (dB ((fnd r M).getD ao.z),h):=by
 unfold fk entriesA
 simp only [map98,m.1,key_ok w,if_true,find_es w M 0 0 m.2,zero58]
 cases hq:idx r M with
 |none=>
  rw [idx_none hq]
  simp only [Option.map_none,recG ao.z_wf,if_true]
  rfl
 |some i=>
  obtain ⟨hi,_,e⟩:=idx_some hq
  rw [e]
  simp only [Option.map_some,List.getD_eq_getElem?_getD,List.getElem?_eq_getElem hi,Option.getD_some]
  rfl
def putM (M:List ao) (r:ao):List ao:=match idx r M with|some i=>M.set i r|none=>M ++ [r]
theorem putM_wf {M:List ao} {r:ao} (h : ∀ x∈M,x.Wf) (w:r.Wf) : ∀ x∈putM M r,ao.Wf x:=by
 intro x hx
 unfold putM at hx
 split at hx
 ·rcases List.mem_or_eq_of_mem_set hx with h1|rfl
  ·exact h x h1
  ·exact w
 ·rcases List.mem_append.1 hx with h1|h1
  ·exact h x h1
  ·rw [List.mem_singleton.1 h1];exact w
theorem esOf_set : ∀ (M:List ao) (i j:Nat) (r:ao),j<M.length→gm (M.set j r) i=(gm M i).set j (plV r,dB r,i+j)
 |x::M,i,0,r,_=>rfl
 |x::M,i,j+1,r,hj=>by
  simp only [List.set_cons_succ,gm]
  rw [esOf_set M (i+1) j r (by simpa using hj)]
  congr 4
  omega
theorem mu_spec {h:ab} {b:Nat} {M:List ao} (m:MapH h b M) {r:ao} (w:r.Wf) :
  dF Tryd.prog 98 (.map (some b)) (plV r) (dB r) h=some (undef,h.bF b (.map (gm (putM M r) 0) (putM M r).length)):=by
 unfold dF
 simp only [map98,m.1,key_ok w,if_true,find_es w M 0 0 m.2]
 unfold putM
 cases hq:idx r M with
 |none=>
  simp only [Option.map_none]
  rw [esOf_app,List.length_append]
  simp only [gm,Nat.zero_add,List.length_cons,List.length_nil]
 |some i=>
  obtain ⟨hi,ha,_⟩:=idx_some hq
  have hk:=atC_of ha
  simp only [Option.map_some,Nat.zero_add,esOf_get M 0 i hi]
  have hb:Instr.sameBits 10000 (plV M[i]) (plV r)=true:=by
   show Instr.sameBits 10000 (.agg (atC M[i]).toArray) (.agg (atC r).toArray)=true
   rw [←hk]
   exact bits_self (at_typed w).kinds
  rw [if_pos hb,esOf_set M 0 i r hi,List.length_set]
  simp only [Nat.zero_add]
end Go.Proofs.YtdnahgfgoajmcaaDoor

namespace Go.Proofs.YtdnahgfgoajmcaaDoor
open Go Go.Abs
attribute [local congr] aq
abbrev zrC:List Value := [(.int .u8 0),(.int .u8 0),(.int .u8 0),(.int .u8 0),(.int .u8 0),(.int .u8 0),(.int .u8 0),(.int .u8 0),(.int .u8 0),(.int .u8 0),(.int .u8 0),(.int .u8 0),(.int .u8 0),(.int .u8 0),(.int .u8 0),(.int .u8 0),(.int .u8 0),(.int .u8 0),(.int .u8 0),(.int .u8 0),(.int .u8 0),(.int .u8 0),(.int .u8 0),(.int .u8 0),(.int .u8 0),(.int .u8 0),(.int .u8 0),(.int .u8 0),(.int .u8 0),(.int .u8 0),(.int .u8 0),(.int .u8 0),(.int .u8 0),(.int .i64 0),(.int .u64 0),(.int .u64 0),(.bool false),(.int .i64 0),(.int .i64 0)]
noncomputable abbrev YM:ae:=callL [(64,s64)]
theorem YM_sound:aU Tryd.prog YM:=callL_sound _ (by
 intro p hp
 simp only [List.mem_cons,List.not_mem_nil,or_false] at hp
 subst hp
 exact c64)
noncomputable def CM:ae:=CC2 Tryd.prog XX YM [60,62,63]
theorem CM_up {f:FuncId} {args:List Value} {h:ab} {r:Value×ab} (hS:([60,62,63]:List Nat).contains f=true) (e:CW f args h=some r):CM f args h=some r:=CC2_up hS (by
 have hf:f=60∨f=62∨f=63:=by simpa using hS
 rcases hf with rfl|rfl|rfl<;>rfl) e
theorem CM_sound:aU Tryd.prog CM:=CC2_sound prog_mixed XX_sound YM_sound
theorem CM_sort {args:List Value} {h:ab} {r:Value×ab} (e:s64 args h=some r):CM 64 args h=some r:=CC2_known e
theorem Kept.bF {h:ab} {b:Nat} {k:BB} {o:eO} (hb:h.n0≤b) (hg:h.aF b=some k):Kept h (h.bF b o) (· = b):=
 ⟨rfl,Nat.le_refl _,fun c _ hn=>ab.dN hb (h.bj hg) _ hn⟩
theorem MapH.mono {h h':ab} {b:Nat} {M:List ao} (m:MapH h b M) (o:Old h h'):MapH h' b M:=⟨Kept.obj o m.1 (fun h=>h),m.2⟩
def needs (M:List ao) (r:ao):Bool := !(fnd r M).isSome||decide (cmpR r ((fnd r M).getD ao.z)>0)
def dI (M:List ao) (r:ao):List ao:=if needs M r=true then putM M r else M
theorem fnd_mem {r x:ao} {M:List ao} (h:fnd r M=some x):x∈M∧atB r x=true:=by
 unfold fnd at h
 exact ⟨List.mem_of_find?_eq_some h,List.find?_some h⟩
theorem fnd_wf {r:ao} {M:List ao} (h : ∀ x∈M,ao.Wf x):((fnd r M).getD ao.z).Wf:=by
 cases e:fnd r M with
 |none=>exact ao.z_wf
 |some x=>exact h x (fnd_mem e).1
theorem rec_var (h:ab) {r:ao} (w:r.Wf) : ∃ h1 h2,dJ zrC h=some (ptr h.next 0,h1)∧eT 39 (ptr h.next 0) (dB r) h1=some (undef,h2)∧Old h h2∧h2.get h.next=some (recC r):=by
 obtain ⟨h1,z1,o1,g1,_⟩:=fresh zrC h
 have c:=bg w
 obtain ⟨h2,e2,k2,g2,_,_⟩:=aS (n:=39) (k':=recC r) g1 (by rw [o1.n0];exact h.ax) rfl c.1 (cq w).all.2.1
 exact ⟨h1,h2,z1,e2,Old.bA o1 k2 (Nat.le_refl _),g2⟩
theorem setO_map {h:ab} {b:Nat} {M M':List ao} (hb:h.n0≤b) (m:MapH h b M) (w : ∀ x∈M',ao.Wf x):MapH (h.bF b (.map (gm M' 0) M'.length)) b M':=by
 refine ⟨?_,w⟩
 unfold ab.bF
 rw [h.cM hb (h.bj m.1),if_pos rfl]
set_option maxRecDepth 100000 in
theorem mrg_loop {h0 g0:ab} {v:Value} {L M:List ao} {mb:Nat} (hG:4≤h0.n0) (O:Old h0 g0) (hm:h0.next≤mb) (m:MapH g0 mb M) (hv:RSl h0 v L) (hl:L.length≤1000000) {x:Nat→Value} (x34:x 34=v) (x35:x 35=ak L.length) (x36:x 36=ak 0) (x5:x 5 = .map (some mb)) :
  Fin 103 (fun ex y g=>ex = .exit 2∧Kept g0 g (· = mb)∧MapH g mb (L.foldl dI M)∧y 0=x 0∧y 5=x 5∧y 28=x 28∧y 29=x 29∧y 30=x 30) (iter (av Tryd.prog CM (partOf Tryd.f25 [1,1,1,1,0,1,0,0,1,1,0,0,1,1,0,0])) rounds (aO 103 x) g0):=by
 refine bP (t25l25_111101001100110_eq CM) (Inv:=fun k y g => ∃ i Mi,i+k=L.length∧y 34=v∧y 35=ak L.length∧y 36=ak i∧y 5 = .map (some mb)∧Kept g0 g (· = mb)∧MapH g mb Mi∧(L.drop i).foldl dI Mi=L.foldl dI M∧y 0=x 0∧y 28=x 28∧y 29=x 29∧y 30=x 30) ?_ L.length (by have:rounds=18446744073709551616:=rfl;omega) ⟨0,M,by omega,x34,x35,x36,x5,Kept.refl _ _,m,rfl,rfl,rfl,rfl,rfl⟩
 rintro k y g ⟨i,Mi,hik,y34,y35,y36,y5,Kg,mg,hf,y0,y28,y29,y30⟩
 have n0:g0.n0≤mb:=by rw [O.n0];exact Nat.le_trans h0.ax hm
 have Og:Old h0 g:=O.also Kg (fun d hd q=>by omega)
 unfold eE
 simp -implicitDefEqProofs only [y35,y36,lss3,ad,af]
 by_cases hi:i<L.length
 ·obtain ⟨b,o,ix,wr,mr,lp⟩:=hv.at hi
  have hd:L.drop i=L.getD i ao.z::L.drop (i+1):=by
   rw [List.drop_eq_getElem_cons hi,List.getD_eq_getElem?_getD,List.getElem?_eq_getElem hi]
   rfl
  rw [hd,List.foldl_cons] at hf
  generalize L.getD i ao.z=r at *
  have L1:=lp g Og
  obtain ⟨h1,h2,e1,e2,o2,g2⟩:=rec_var g wr
  have hn2:4≤h2.n0:=by rw [o2.n0,Og.n0];exact hG
  have la : ∀ q,Old h2 q→cT 39 (ptr g.next 0) q=some (dB r,q):=fun q oq=>bh (Old.get oq g2) (bg wr).1 (bg wr).2.1
  obtain ⟨h3,e3,o3⟩:=r62 hn2 wr
  have e3:=CM_up rfl e3
  have m3:MapH h3 mb Mi:=mg.mono (o2.trans o3)
  have wx:=fnd_wf (r:=r) mg.2
  have e4:=lk_true m3 wr
  obtain ⟨h5,h6,e5,e6,o6,g6⟩:=rec_var h3 wx
  have hn6:4≤h6.n0:=by rw [o6.n0,o3.n0];exact hn2
  have O26:Old h2 h6:=o3.trans o6
  have lb : ∀ q,Old h6 q→cT 39 (ptr h3.next 0) q=some (dB ((fnd r Mi).getD ao.z),q):=fun q oq=>bh (Old.get oq g6) (bg wx).1 (bg wx).2.1
  have x0:bm (.tuple #[dB ((fnd r Mi).getD ao.z),.bool (fnd r Mi).isSome]) 0=some (dB ((fnd r Mi).getD ao.z)):=rfl
  have x1:bm (.tuple #[dB ((fnd r Mi).getD ao.z),.bool (fnd r Mi).isSome]) 1=some (.bool (fnd r Mi).isSome):=rfl
  obtain ⟨h7,e7,o7⟩:=r63 hn6 wr wx
  have e7:=CM_up rfl e7
  have a36:bin Tryd.prog .add 3 (ak i) (.int .i64 1)=some (ak (i+1)):=fc (by omega)
  have put : ∀ q,Old h6 q → ∃ q2 q3,CM 62 [dB r] q=some (plV r,q2)∧Old q q2∧cT 39 (ptr g.next 0) q2=some (dB r,q2)∧dF Tryd.prog 98 (.map (some mb)) (plV r) (dB r) q2=some (undef,q3)∧Kept g0 q3 (· = mb)∧MapH q3 mb (putM Mi r):=by
   intro q oq
   have hnq:4≤q.n0:=by rw [oq.n0];exact hn6
   obtain ⟨q2,f1,f2⟩:=r62 hnq wr
   have mq:MapH q2 mb Mi:=m3.mono ((o6.trans oq).trans f2)
   have nq:q2.n0≤mb:=by rw [f2.n0,oq.n0,o6.n0,o3.n0,o2.n0,Kg.n0];exact n0
   refine ⟨q2,_,CM_up rfl f1,f2,la q2 ((O26.trans oq).trans f2),mu_spec mq wr,?_,setO_map nq mq (putM_wf mg.2 wr)⟩
   have k1:Kept g0 q2 (· = mb):=Kg.also (((o2.trans O26).trans oq).trans f2) (fun _ _ q=>q.elim)
   exact k1.trans (Kept.bF nq mq.1)
  simp -implicitDefEqProofs only [decide_eq_true hi,y34,y5,ix,L1,e1,e2,la h2 (Kept.refl _ _),e3,e4,x0,x1,e5,e6,aX,ad,af]
  cases hs:(fnd r Mi).isSome with
  |false=>
   have hneed:needs Mi r=true:=by unfold needs;rw [hs];rfl
   have hms:dI Mi r=putM Mi r:=by unfold dI;rw [if_pos hneed]
   obtain ⟨q2,q3,p1,p2,p3,p4,p5,p6⟩:=put h6 (Kept.refl _ _)
   rw [hms] at hf
   have ck : ∀ q,bN true (some (dB r,q)) (dB r)=true:=fun q=>chk_agg _ _ (cq wr).kinds
   simp -implicitDefEqProofs only [Bool.not_false,show (aR (.bool true)==some false)=false from rfl,aw,if_true,la h6 O26,p1,p3,p4,ck,Bool.and_self,y36,a36,ad,af]
   refine dU.next (k-1) (by omega) ⟨i+1,putM Mi r,by omega,y34,y35,rfl,y5,p5,p6,hf,y0,y28,y29,y30⟩
  |true=>
   have hneed:needs Mi r=decide (cmpR r ((fnd r Mi).getD ao.z)>0):=by unfold needs;rw [hs];rfl
   simp -implicitDefEqProofs only [Bool.not_true,show (aR (.bool false)==some false)=true from rfl,ay,la h6 O26,lb h6 (Kept.refl _ _),e7,bp,←hneed,Bool.false_eq_true,if_false,ad,af]
   cases hd2:needs Mi r with
   |true=>
    have hms:dI Mi r=putM Mi r:=by unfold dI;rw [if_pos hd2]
    obtain ⟨q2,q3,p1,p2,p3,p4,p5,p6⟩:=put h7 o7
    rw [hms] at hf
    have ck : ∀ q,bN true (some (dB r,q)) (dB r)=true:=fun q=>chk_agg _ _ (cq wr).kinds
    simp -implicitDefEqProofs only [la h7 (O26.trans o7),p1,p3,p4,ck,Bool.and_self,y36,a36,ad,af]
    exact dU.next (k-1) (by omega) ⟨i+1,putM Mi r,by omega,y34,y35,rfl,y5,p5,p6,hf,y0,y28,y29,y30⟩
   |false=>
    have hms:dI Mi r=Mi:=by unfold dI;rw [if_neg (by rw [hd2];exact Bool.false_ne_true)]
    rw [hms] at hf
    simp -implicitDefEqProofs only [y36,a36,ad,af]
    refine dU.next (k-1) (by omega) ⟨i+1,Mi,by omega,y34,y35,rfl,y5,?_,m3.mono (o6.trans o7),hf,y0,y28,y29,y30⟩
    exact Kg.also ((o2.trans O26).trans o7) (fun _ _ q=>q.elim)
 ·have hiE:i=L.length:=by omega
  rw [hiE,List.drop_length,List.foldl_nil] at hf
  subst hf
  simp -implicitDefEqProofs only [decide_eq_false hi,ad,af]
  exact dU.out 2 ⟨rfl,Kg,mg,y0,y5.trans x5.symm,y28,y29,y30⟩
end Go.Proofs.YtdnahgfgoajmcaaDoor

namespace Go.Proofs.YtdnahgfgoajmcaaDoor
open Go Go.Abs
attribute [local congr] aq
theorem two_at {g:ab} {sb:Nat} {a b:Value} (e:g.get sb=some [a,b]) (ha:isHole a=false) (hb:isHole b=false):ld1 (ptr sb 0) g=some (a,g)∧ld1 (ptr sb 1) g=some (b,g):=by
 exact ⟨aQ e rfl ha,aQ e rfl hb⟩
theorem b25_5e (C:ae) (i:Nat) (e:Env) (h:ab):b25_5 C i e h=if i=0 then some (Ex.normal,e,h) else some (Ex.exit i,e,h):=rfl
theorem b25_23e (C:ae) (e:Env) (h:ab):b25_23 C 2 e h=k25_19 C e h:=rfl
set_option maxRecDepth 100000 in
theorem mrg_lists {h0 g0:ab} {va vr:Value} {La Lr:List ao} {vb mb:Nat} (hG:4≤h0.n0) (O:Old h0 g0) (hm:h0.next≤mb) (m:MapH g0 mb []) (ha:RSl h0 va La) (hr:RSl h0 vr Lr) (la:La.length≤1000000) (lr:Lr.length≤1000000)
  (gv:g0.get vb=some [va]) {x:Nat→Value} (x0:x 0=ptr vb 0) (x1:x 1=vr) (x5:x 5 = .map (some mb)) :
  ∃ y g,gP CM x g0=some (.normal,aO 103 y,g)∧Old h0 g∧g0.next≤g.next∧MapH g mb ((La++Lr).foldl dI [])∧y 0=ptr vb 0∧y 5 = .map (some mb):=by
 obtain ⟨a,c,rfl⟩:=ha.1
 obtain ⟨a',c',rfl⟩:=hr.1
 have l1:ld1 (ptr vb 0) g0=some (.slice a La.length c,g0):=by
  unfold ld1 ptr
  simp only [gv]
  rfl
 have o1:Old g0 (g0.alloc [.slice a La.length c,.slice a' Lr.length c']):=Kept.alloc _ _ _
 have e2:cO 1 (.slice none 0 0) 2 [(0,.slice a La.length c),(1,.slice a' Lr.length c')] g0=some (.slice (some ⟨g0.next,0,none⟩) 2 2,g0.alloc [.slice a La.length c,.slice a' Lr.length c']):=rfl
 have gs:(g0.alloc [.slice a La.length c,.slice a' Lr.length c']).get g0.next=some [.slice a La.length c,.slice a' Lr.length c']:=by rw [ab.aK,if_pos rfl]
 have hne:mb≠g0.next:=fun e=>by
  have:=g0.bj m.1
  omega
 have m2:=m.mono o1
 generalize g0.alloc [.slice a La.length c,.slice a' Lr.length c']=g1 at *
 have O1:=O.trans o1
 have n0:g1.n0≤mb:=by rw [O1.n0];exact Nat.le_trans h0.ax hm
 have key : ∃ o,gP CM x g0=o ∧ ∃ y g,o=some (.normal,aO 103 y,g)∧Old h0 g∧g0.next≤g.next∧MapH g mb ((La++Lr).foldl dI [])∧y 0=ptr vb 0∧y 5 = .map (some mb):=by
  refine ⟨_,rfl,?_⟩
  unfold gP
  have nc:aN (ptr vb 0)=some (ptr vb 0):=rfl
  have ll:cN (.slice (some ⟨g0.next,0,none⟩) 2 2)=some (ak 2):=rfl
  simp -implicitDefEqProofs only [x0,x1,l1,e2,nc,ll,aB,Nat.zero_add,ad,af]
  refine bO (n:=103) (fin:=fun ex y g=>ex = .exit 0∧Kept g1 g (· = mb)∧MapH g mb ((La++Lr).foldl dI [])∧y 0=ptr vb 0∧y 5 = .map (some mb)) (Q:=fun o => ∃ y g,o=some (Ex.normal,aO 103 y,g)∧Old h0 g∧g0.next≤g.next∧MapH g mb ((La++Lr).foldl dI [])∧y 0=ptr vb 0∧y 5 = .map (some mb))
   (bP (t25l25_1111010_eq CM) (Inv:=fun k y g => ∃ i M,i+k=2∧y 28 = .slice (some ⟨g0.next,0,none⟩) 2 2∧y 29=ak 2∧y 30=ak i∧y 5 = .map (some mb)∧y 0=ptr vb 0∧Kept g1 g (· = mb)∧MapH g mb M∧(if i=0 then M = [] else if i=1 then M=La.foldl dI [] else M=(La++Lr).foldl dI [])) ?_ 2 (by have:rounds=18446744073709551616:=rfl;omega) ⟨0,[],rfl,rfl,rfl,rfl,x5,x0,Kept.refl _ _,m2,by simp⟩) ?_
  ·rintro k y g ⟨i,M,hik,y28,y29,y30,y5,y0,Kg,mg,hM⟩
   have Og:Old h0 g:=O1.also Kg (fun d hd q=>by omega)
   have gsg:g.get g0.next=some [.slice a La.length c,.slice a' Lr.length c']:=Kg.dX gs (fun e=>hne e.symm)
   obtain ⟨t1,t2⟩:=two_at gsg rfl rfl
   unfold t25l25_1111010
   simp -implicitDefEqProofs only [y29,y30,lss3,ad,af]
   rcases (show i=0∨i=1∨i=2 by omega) with rfl|rfl|rfl
   ·rw [if_pos rfl] at hM
    subst hM
    have ix:df 1 (.slice (some ⟨g0.next,0,none⟩) 2 2) (ak 0)=some (ptr g0.next 0):=rfl
    simp -implicitDefEqProofs only [decide_eq_true (show 0<2 by decide),y28,ix,t1,ha.len,ad,af]
    refine bO (mrg_loop hG Og hm mg ha la rfl rfl rfl y5) ?_
    rintro ex z g3 ⟨rfl,K3,m3,z0,z5,z28,z29,z30⟩
    simp -implicitDefEqProofs only [bB,b25_23e,t25k25_19_eq]
    unfold t25k25_19
    have z30':z 30=ak 0:=z30.trans y30
    have a30:bin Tryd.prog .add 3 (ak 0) (.int .i64 1)=some (ak 1):=fc (by omega)
    simp -implicitDefEqProofs only [z30',a30,ad,af]
    exact dU.next 1 (by omega) ⟨1,_,rfl,z28.trans y28,z29.trans y29,rfl,z5.trans y5,z0.trans y0,Kg.trans K3,m3,by simp⟩
   ·rw [if_neg (by decide),if_pos rfl] at hM
    subst hM
    have ix:df 1 (.slice (some ⟨g0.next,0,none⟩) 2 2) (ak 1)=some (ptr g0.next 1):=rfl
    simp -implicitDefEqProofs only [decide_eq_true (show 1<2 by decide),y28,ix,t2,hr.len,ad,af]
    refine bO (mrg_loop hG Og hm mg hr lr rfl rfl rfl y5) ?_
    rintro ex z g3 ⟨rfl,K3,m3,z0,z5,z28,z29,z30⟩
    simp -implicitDefEqProofs only [bB,b25_23e,t25k25_19_eq]
    unfold t25k25_19
    have z30':z 30=ak 1:=z30.trans y30
    have a30:bin Tryd.prog .add 3 (ak 1) (.int .i64 1)=some (ak 2):=fc (by omega)
    simp -implicitDefEqProofs only [z30',a30,ad,af]
    exact dU.next 0 (by omega) ⟨2,_,rfl,z28.trans y28,z29.trans y29,rfl,z5.trans y5,z0.trans y0,Kg.trans K3,m3,by simp [List.foldl_append]⟩
   ·rw [if_neg (by decide),if_neg (by decide)] at hM
    subst hM
    simp -implicitDefEqProofs only [decide_eq_false (show ¬2<2 by decide),ad,af]
    exact dU.out 0 ⟨rfl,Kg,mg,y0,y5⟩
  ·rintro ex z g ⟨rfl,Kg,mg,z0,z5⟩
   simp -implicitDefEqProofs only [bB,b25_5e,if_true]
   exact ⟨z,g,rfl,O1.also Kg (fun d hd q=>by omega),Nat.le_trans o1.next Kg.next,mg,z0,z5⟩
 obtain ⟨o,e,y,g,e',q⟩:=key
 exact ⟨y,g,e.trans e',q⟩
end Go.Proofs.YtdnahgfgoajmcaaDoor

namespace Go.Proofs.YtdnahgfgoajmcaaDoor
open Go Go.Abs
attribute [local congr] aq
def baseP (n:Int):ao:={ ao.z with kind:=1,aH:=n }
def gN (o:List Nat):ao:={ ao.z with kind:=2,obj:=o }
theorem baseP_wf {n:Int} (h:I64 n):(baseP n).Wf:={ ao.z_wf with kind:=by show 1<256;decide,aH:=h }
theorem graveP_wf {o:List Nat} (h:gz o):(gN o).Wf:={ ao.z_wf with kind:=by show 2<256;decide,obj:=h }
theorem bldP_base (n:Int):eW zat [(0,1,.int .u8 1),(33,1,.int .i64 n)]=some (plV (baseP n)):=rfl
theorem bldP_grave {o:List Nat} (h:gz o):eW zat [(0,1,.int .u8 2),(1,32,.agg (aV o).toArray)]=some (plV (gN o)):=by
 have e:dt zat [(0,1,.int .u8 2),(1,32,.agg (aV o).toArray)]=dt ([.int .u8 2]++(aV z32 ++ [.int .i64 0])) [(1,32,.agg (aV o).toArray)]:=rfl
 unfold eW
 rw [e,fill_mid (A := [.int .u8 2]) (B:=aV z32) (o:=1) (n:=32) rfl rfl rfl (by rw [List.length_map];exact h.1)]
 rfl
def fC (M:List ao) (r:ao):Bool := !(decide (r.kind=3)&&((fnd (gN r.obj) M).isSome||decide (r.inc<((fnd (baseP r.aH) M).getD ao.z).inc)))
def cE (h:ab) (N:Nat) (v:Value) (L:List ao):Prop:=(∀ r∈L,ao.Wf r) ∧ ∃ b s,v = .slice (some ⟨b,0,s⟩) L.length L.length∧h.get b=some (ba L)∧N≤b∧((L = []∧s=none)∨(L ≠ []∧s=some 39))
def rlB:Value→Nat
 | .slice (some ⟨b,_,_⟩) _ _=>b
 |_=>0
theorem cE.cx {h:ab} {N:Nat} {v:Value} {L:List ao} (x:cE h N v L):N≤rlB v∧h.get (rlB v)=some (ba L):=by
 obtain ⟨hw,b,s,rfl,h1,h2,_⟩:=x
 exact ⟨h2,h1⟩
theorem cE.bS {h h':ab} {N:Nat} {v:Value} {L:List ao} (x:cE h N v L) (o:Old h h'):cE h' N v L:=by
 obtain ⟨hw,b,s,rfl,h1,h2⟩:=x
 exact ⟨hw,b,s,rfl,Old.get o h1,h2⟩
theorem recsC_app (A B:List ao):ba (A++B)=ba A++ba B:=by
 unfold ba
 rw [List.flatMap_append]
theorem recsC_one (r:ao):ba [r]=recC r:=by
 unfold ba
 rw [List.flatMap_cons,List.flatMap_nil,List.append_nil]
theorem cE.push {h:ab} {N c:Nat} {v:Value} {L:List ao} {r:ao} (x:cE h N v L) (h0:h.n0≤N) (hN:N≤h.next) (w:r.Wf) (hl:L.length≤1000000) (hc:h.get c=some (recC r)) :
  ∃ v' h',aD 39 88 v (.slice (some ⟨c,0,none⟩) 1 1) h=some (v',h')∧cE h' N v' (L ++ [r])∧Kept h h' (· = rlB v):=by
 obtain ⟨hw,b,s,rfl,g1,g2,g3⟩:=x
 have cr:=bg w
 have lc:=cG hw
 have ok:=hI hw
 have hw' : ∀ q∈L ++ [r],ao.Wf q:=fun q hq=>by
  rcases List.mem_append.1 hq with h1|h1
  ·exact hw q h1
  ·rw [List.mem_singleton.1 h1];exact w
 have lT:(L ++ [r]).length=L.length+1:=by rw [List.length_append,List.length_singleton]
 have hne:L ++ [r] ≠ []:=by simp
 have hf:bc 39 1 (.slice (some ⟨c,0,none⟩) 1 1) h=some (recC r):=by
  have e:((recC r).drop 0).take (1*39)=recC r:=by rw [List.drop_zero,List.take_of_length_le (by rw [cr.1];decide)]
  unfold bc
  simp only
  rw [if_neg (by decide),hc]
  simp only
  rw [e,if_pos ⟨by rw [cr.1];decide,cr.2.1⟩]
 have hcond:(!(aJ (recC r)) || !(decide ((L.length+1)*88≤140737488355328)) || !(decide (L.length+1≤4611686018427387904))||decide ((recC r).length≠1*39))=false:=by
  rw [cr.2.2,decide_eq_true (by omega:(L.length+1)*88≤140737488355328),decide_eq_true (by omega:L.length+1≤4611686018427387904),decide_eq_false (by rw [cr.1];decide)]
  rfl
 have hfo:bc 39 L.length (.slice (some ⟨b,0,s⟩) L.length L.length) h=some (ba L):=by
  unfold bc
  simp only
  by_cases hz:L.length*39=0
  ·rw [if_pos hz]
   rw [List.length_eq_zero_iff.1 (by omega:L.length=0)]
   rfl
  ·have e:((ba L).drop 0).take (L.length*39)=ba L:=by rw [List.drop_zero,List.take_of_length_le (by omega)]
   rw [if_neg hz,g1]
   simp only
   rw [e,if_pos ⟨by omega,ok.1⟩]
 have fin : ∀ g:ab,N≤g.next→cE (g.alloc (ba L++recC r)) N (.slice (some ⟨g.next,0,some 39⟩) (L.length+1) (L.length+1)) (L ++ [r]):=fun g hg=>
  ⟨hw',g.next,some 39,by rw [lT],by rw [ab.aK,if_pos rfl,recsC_app,recsC_one],hg,.inr ⟨hne,rfl⟩⟩
 rcases g3 with ⟨hn,rfl⟩|⟨hn,rfl⟩
 ·refine ⟨.slice (some ⟨h.next,0,some 39⟩) (L.length+1) (L.length+1),h.alloc (ba L++recC r),?_,fin h hN,(Kept.alloc _ _ _)⟩
  unfold aD
  simp only [lenA,hf]
  rw [if_neg (by rw [hcond];decide),if_neg (by omega)]
  simp only [hfo]
  rw [if_neg (by omega)]
 ·refine ⟨.slice (some ⟨h.next,0,some 39⟩) (L.length+1) (L.length+1),(h.kill b).alloc (ba L++recC r),?_,fin (h.kill b) hN,?_⟩
  ·unfold aD
   simp only [lenA,hf]
   rw [if_neg (by rw [hcond];decide),if_neg (by omega)]
   simp only [hfo]
   rw [if_neg (by omega),if_pos (by rw [g1];simp;omega)]
  ·refine ⟨rfl,by simp,fun q hq hb => ?_⟩
   rw [ab.cA,ab.gA,if_neg (by omega)]
   unfold ab.kill
   rw [h.cM (by omega) (h.aP g1),if_neg (show ¬q=b from hb)]
theorem atld {h:ab} {b:Nat} {r:ao} (w:r.Wf) (g:h.get b=some (atC r)):ld1 (ptr b 0) h=some (.int .u8 (r.kind:Int),h)∧cT 32 (ptr b 1) h=some (.agg (aV r.obj).toArray,h)∧ld1 (ptr b 33) h=some (.int .i64 r.aH,h):=by
 have ho:(aV r.obj).length=32:=by rw [List.length_map];exact w.obj.1
 refine ⟨aQ g rfl rfl,?_,aQ g ?_ rfl⟩
 ·exact ldN_mid g (A := [.int .u8 (r.kind:Int)]) (B:=aV r.obj) (C := [.int .i64 r.aH]) rfl rfl ho (cF w.obj).all.1
 ·have:=at_at (x := .int .u8 (r.kind:Int)) (y := .int .i64 r.aH) ho
  rw [List.getElem?_toArray] at this
  exact this
def IterH (h:ab) (ib mb n:Nat) (seen:List Nat):Prop:=h.aF ib=some (.obj (.iter (some mb) n seen n))
theorem es_find : ∀ (M:List ao) (i s:Nat) (hs:s<M.length),(gm M i).find? (fun e=>e.2.2==i+s)=some (plV M[s],dB M[s],i+s)
 |r::M,i,0,_=>by
  unfold gm
  rw [List.find?_cons_of_pos (by simp)]
  rfl
 |r::M,i,s+1,hs=>by
  unfold gm
  rw [List.find?_cons_of_neg (by simp)]
  have:=es_find M (i+1) s (by simpa using hs)
  rw [show i+1+s=i+(s+1) by omega] at this
  rw [this]
  rfl
theorem entry_at {h:ab} {ib mb s:Nat} {M:List ao} {seen:List Nat} (m:MapH h mb M) (it:IterH h ib mb M.length (seen ++ [s])) (hs:s<M.length):entryA (ptr ib 0) h=some (.tuple #[plV M[s],dB M[s]],h):=by
 have e:=es_find M 0 s hs
 rw [Nat.zero_add] at e
 unfold entryA ptr
 simp only [show h.aF ib=_ from it,List.getLast?_concat,m.1,if_true,e,Option.map_some]
theorem bsl_rec {r:ao} (w:r.Wf) (q:ab):cO 39 (.agg #[(.int .u8 0),(.int .u8 0),(.int .u8 0),(.int .u8 0),(.int .u8 0),(.int .u8 0),(.int .u8 0),(.int .u8 0),(.int .u8 0),(.int .u8 0),(.int .u8 0),(.int .u8 0),(.int .u8 0),(.int .u8 0),(.int .u8 0),(.int .u8 0),(.int .u8 0),(.int .u8 0),(.int .u8 0),(.int .u8 0),(.int .u8 0),(.int .u8 0),(.int .u8 0),(.int .u8 0),(.int .u8 0),(.int .u8 0),(.int .u8 0),(.int .u8 0),(.int .u8 0),(.int .u8 0),(.int .u8 0),(.int .u8 0),(.int .u8 0),(.int .i64 0),(.int .u64 0),(.int .u64 0),(.bool false),(.int .i64 0),(.int .i64 0)]) 1 [(0,dB r)] q=some (.slice (some ⟨q.next,0,none⟩) 1 1,q.alloc (recC r)):=by
 have e1:dt zrC [(0*39,39,dB r)]=some (recC r):=by
  rw [fill_mid (z:=zrC) (A := []) (B:=zrC) (C := []) (o:=0*39) (n:=39) (by simp) rfl rfl (bg w).1]
  simp [dt]
 have e2:aJ ([(0,dB r)].flatMap fun x:Nat×Value=>x.2.cells.toList)=true:=by
  show aJ ((recC r).toArray.toList ++ [])=true
  rw [List.append_nil]
  exact (cq w).all.2.1
 unfold cO
 rw [e2]
 exact (congrArg (fun o:Option (List Value)=>match o with|some cs=>some (Value.slice (some ⟨q.next,0,none⟩) 1 1,q.alloc cs)|none=>none) e1:_)
def After3 (M:List ao) (mb ib N:Nat) (x:Nat→Value) (g:ab) (L:List ao) (r:ao) (o:Option (Ex×Env×ab)):Prop:=
 ∃ y g',o=some (.normal,aO 103 y,g')∧y 0=x 0∧y 5 = .map (some mb)∧y 63=ptr ib 0∧cE g' N (y 12) (L++if fC M r=true then [r] else [])∧Kept g g' (· = rlB (x 12))
theorem u8_eq3 (n:Nat):((n:Int)==3)=decide (n=3):=by
 by_cases h:n=3
 ·subst h;rfl
 ·rw [decide_eq_false h,beq_eq_false_iff_ne]
  omega
set_option maxRecDepth 100000 in
set_option maxHeartbeats 1000000 in
theorem mrg_entry {g:ab} {ib mb s N:Nat} {M L:List ao} {seen:List Nat} (hs:s<M.length) (m:MapH g mb M) (it:IterH g ib mb M.length (seen ++ [s])) {x:Nat→Value} (x5:x 5 = .map (some mb)) (x63:x 63=ptr ib 0) (x65:x 65 = .bool true)
  (rl:cE g N (x 12) L) (h0:g.n0≤N) (hN:N≤g.next) (hl:L.length≤1000000):After3 M mb ib N x g L M[s] (eJ CM x g):=by
 have wr:M[s].Wf:=m.2 _ (List.getElem_mem hs)
 have e1:=entry_at m it hs
 generalize M[s]=r at *
 obtain ⟨h1,z1,o1,g1,n1⟩:=fresh zat g
 obtain ⟨h2,z2,o2,g2,n2⟩:=fresh zrC h1
 have ta:=at_typed wr
 have cr:=bg wr
 have nz:g.n0≤g.next:=g.ax
 obtain ⟨h3,e3,k3,g3,_,_⟩:=aS (n:=34) (k':=atC r) (Old.get o2 g1) (by rw [o2.n0,o1.n0];exact nz) rfl (atC_len wr) ta.all.2.1
 have g2':h3.get h1.next=some zrC:=k3.dX g2 (by omega)
 obtain ⟨h4,e4,k4,g4,_,_⟩:=aS (n:=39) (k':=recC r) g2' (by rw [k3.n0,o2.n0,o1.n0];omega) rfl cr.1 (cq wr).all.2.1
 have g3':h4.get g.next=some (atC r):=k4.dX g3 (by omega)
 have O4:Old g h4:=Old.bA (Old.bA (o1.trans o2) k3 (Nat.le_refl _)) k4 (by omega)
 obtain ⟨a0,a1,a33⟩:=atld wr g3'
 have m4:=m.mono O4
 have x0:bm (.tuple #[plV r,dB r]) 0=some (plV r):=rfl
 have x1:bm (.tuple #[plV r,dB r]) 1=some (dB r):=rfl
 have push : ∀ q,Old h4 q → ∃ v' q',cT 39 (ptr h1.next 0) q=some (dB r,q)∧cO 39 (.agg #[(.int .u8 0),(.int .u8 0),(.int .u8 0),(.int .u8 0),(.int .u8 0),(.int .u8 0),(.int .u8 0),(.int .u8 0),(.int .u8 0),(.int .u8 0),(.int .u8 0),(.int .u8 0),(.int .u8 0),(.int .u8 0),(.int .u8 0),(.int .u8 0),(.int .u8 0),(.int .u8 0),(.int .u8 0),(.int .u8 0),(.int .u8 0),(.int .u8 0),(.int .u8 0),(.int .u8 0),(.int .u8 0),(.int .u8 0),(.int .u8 0),(.int .u8 0),(.int .u8 0),(.int .u8 0),(.int .u8 0),(.int .u8 0),(.int .u8 0),(.int .i64 0),(.int .u64 0),(.int .u64 0),(.bool false),(.int .i64 0),(.int .i64 0)]) 1 [(0,dB r)] q=some (.slice (some ⟨q.next,0,none⟩) 1 1,q.alloc (recC r)) ∧
   aD 39 88 (x 12) (.slice (some ⟨q.next,0,none⟩) 1 1) (q.alloc (recC r))=some (v',q')∧cE q' N v' (L ++ [r])∧Kept g q' (· = rlB (x 12)):=by
  intro q oq
  have oa:Old q (q.alloc (recC r)):=Kept.alloc _ _ _
  have Oq:=O4.trans oq
  have OO:=Oq.trans oa
  obtain ⟨v',q',p1,p2,p5⟩:=(rl.bS OO).push (r:=r) (c:=q.next) (by rw [OO.n0];exact h0) (Nat.le_trans hN OO.next) wr hl (by rw [ab.aK,if_pos rfl])
  exact ⟨v',q',bh (Old.get oq g4) cr.1 cr.2.1,bsl_rec wr q,p1,p2,(Kept.mono OO (fun _ _ h=>h.elim)).trans p5⟩
 unfold After3 eJ
 simp -implicitDefEqProofs only [x65,x63,e1,x0,x1,z1,z2,e3,e4,aB,Nat.zero_add,a0,bq,u8_eq3,ad,af]
 by_cases hk:r.kind=3
 ·obtain ⟨h5,h6,z5,e6,o6,g6⟩:=rec_var h4 (fnd_wf (r:=baseP r.aH) m.2)
  have lb:=lk_false m4 (baseP_wf wr.aH)
  have m6:=m4.mono o6
  have lg:=lk_true m6 (graveP_wf wr.obj)
  have y0:bm (.tuple #[dB ((fnd (gN r.obj) M).getD ao.z),.bool (fnd (gN r.obj) M).isSome]) 0=some (dB ((fnd (gN r.obj) M).getD ao.z)):=rfl
  have y1:bm (.tuple #[dB ((fnd (gN r.obj) M).getD ao.z),.bool (fnd (gN r.obj) M).isSome]) 1=some (.bool (fnd (gN r.obj) M).isSome):=rfl
  obtain ⟨h7,h8,z7,e8,o8,g8⟩:=rec_var h6 (fnd_wf (r:=gN r.obj) m.2)
  obtain ⟨_,b1,_⟩:=atld wr (Old.get o6 g3')
  have O8:=o6.trans o8
  have l34:=(r_ld wr (Old.get O8 g4)).l34
  have l34b:=(r_ld (fnd_wf (r:=baseP r.aH) m.2) (Old.get o8 g6)).l34
  simp -implicitDefEqProofs only [decide_eq_true hk,a33,bldP_base,x5,lb,z5,e6,aB,b1,bldP_grave wr.obj,lg,y0,y1,z7,e8,ad,af]
  cases hg:(fnd (gN r.obj) M).isSome with
  |true=>
   have kk:fC M r=false:=by unfold fC;rw [decide_eq_true hk,hg];rfl
   simp -implicitDefEqProofs only [show (aR (.bool true)==some false)=false from rfl,aw,if_true,kk,Bool.false_eq_true,if_false,List.append_nil,ad,af]
   exact ⟨_,_,rfl,rfl,x5,x63,rl.bS (O4.trans O8),Kept.mono (O4.trans O8) (fun _ _ h=>h.elim)⟩
  |false=>
   have kk:fC M r = !(decide (r.inc<((fnd (baseP r.aH) M).getD ao.z).inc)):=by unfold fC;rw [decide_eq_true hk,hg];rfl
   simp -implicitDefEqProofs only [show (aR (.bool false)==some false)=true from rfl,ay,aB,Nat.zero_add,l34,l34b,bG,Int.ofNat_lt,Bool.false_eq_true,if_false,kk,ad,af]
   by_cases hi:r.inc<((fnd (baseP r.aH) M).getD ao.z).inc
   ·simp -implicitDefEqProofs only [decide_eq_true hi,Bool.not_true,Bool.false_eq_true,if_false,List.append_nil]
    exact ⟨_,_,rfl,rfl,x5,x63,rl.bS (O4.trans O8),Kept.mono (O4.trans O8) (fun _ _ h=>h.elim)⟩
   ·obtain ⟨v',q',p1,p2,p3,p4,p5⟩:=push h8 O8
    simp -implicitDefEqProofs only [decide_eq_false hi,Bool.not_false,if_true,p1,p2,p3,ad,af]
    exact ⟨_,_,rfl,rfl,x5,x63,p4,p5⟩
 ·have kk:fC M r=true:=by unfold fC;rw [decide_eq_false hk];rfl
  obtain ⟨v',q',p1,p2,p3,p4,p5⟩:=push h4 (Kept.refl _ _)
  simp -implicitDefEqProofs only [decide_eq_false hk,p1,p2,p3,kk,if_true,ad,af]
  exact ⟨_,_,rfl,rfl,x5,x63,p4,p5⟩
end Go.Proofs.YtdnahgfgoajmcaaDoor

namespace Go.Proofs.YtdnahgfgoajmcaaDoor
open Go Go.Abs
open Go.Lib (compareBytes)
theorem cb_neg : ∀ a b:List UInt8,compareBytes b a = - compareBytes a b
 | [],[]=>by rfl
 | [],_::_=>by rfl
 |_::_,[]=>by rfl
 |x::a,y::b=>by
  rw [cb_cons,cb_cons,cb_neg a b]
  by_cases e1:x.toNat<y.toNat
  ·have e2 : ¬y.toNat<x.toNat:=by omega
   simp [e1,e2]
  ·by_cases e2:y.toNat<x.toNat
   ·simp [e1,e2]
   ·simp [e1,e2]
theorem recB_cases {r:ao} (h:dK r=true):(r.kind=1∧r=r.base∧0≤r.aH∧r.aH<16∧1≤r.inc)∨(r.kind=2∧r=r.grave)∨(r.kind=3∧pieceB r=true∧0≤r.aH∧r.aH<16∧1≤r.inc):=by
 unfold dK at h
 split at h
 ·rename_i h1
  have h1:(r.kind:Int)=1:=by simpa using h1
  have h1:r.kind=1:=by omega
  rw [Bool.and_eq_true,decide_eq_true_eq] at h
  unfold gV at h
  simp only [Bool.and_eq_true,decide_eq_true_eq] at h
  exact .inl ⟨h1,h.1,by omega,by omega,by omega⟩
 ·split at h
  ·rename_i h2
   have h2:(r.kind:Int)=2:=by simpa using h2
   have h2:r.kind=2:=by omega
   exact .inr (.inl ⟨h2,of_decide_eq_true h⟩)
  ·split at h
   ·rename_i h3
    have h3:(r.kind:Int)=3:=by simpa using h3
    have h3:r.kind=3:=by omega
    have h':=h
    unfold pieceB gV at h'
    simp only [Bool.and_eq_true,decide_eq_true_eq] at h'
    exact .inr (.inr ⟨h3,h,by omega,by omega,by omega⟩)
   ·cases h
theorem recB_holder {r:ao} (h:dK r=true):0≤r.aH∧r.aH<16:=by
 rcases recB_cases h with h|⟨_,h⟩|h
 ·exact ⟨h.2.2.1,h.2.2.2.1⟩
 ·have:r.aH=0:=by rw [h];rfl
  omega
 ·exact ⟨h.2.2.1,h.2.2.2.1⟩
theorem ofNat_inj : ∀ {x y:List Nat},Bys x→Bys y→x.map UInt8.ofNat=y.map UInt8.ofNat→x=y
 | [],[],_,_,_=>rfl
 | [],_::_,_,_,h=>by simp at h
 |_::_,[],_,_,h=>by simp at h
 |a::x,b::y,hx,hy,h=>by
  simp only [List.map_cons,List.cons.injEq] at h
  have ha:=hx a List.mem_cons_self
  have hb:=hy b List.mem_cons_self
  have e:a=b:=by
   have:=congrArg UInt8.toNat h.1
   simp only [UInt8.toNat_ofNat'] at this
   omega
  rw [e,ofNat_inj (fun z hz=>hx z (List.mem_cons_of_mem _ hz)) (fun z hz=>hy z (List.mem_cons_of_mem _ hz)) h.2]
theorem key_place {a b:ao} (wa:a.Wf) (wb:b.Wf) (va:dK a=true) (vb:dK b=true) (h:ek a b=0):atB a b=true:=by
 have e:=ofNat_inj (keyB_bys wa) (keyB_bys wb) (cb_eq _ _ h)
 unfold keyB at e
 simp only [List.cons_append,List.nil_append,List.cons.injEq] at e
 obtain ⟨e1,e2⟩:=e
 obtain ⟨e2,e3⟩:=List.append_inj e2 (by rw [wa.obj.1,wb.obj.1])
 have ha:=recB_holder va
 have hb:=recB_holder vb
 refine gg.2 ⟨e1,e2,?_⟩
 unfold i8 at e3
 simp only [List.cons.injEq,and_true] at e3
 omega
theorem eg (a b:ao):atB a b=atB b a:=by
 rw [Bool.eq_iff_iff,gg,gg]
 constructor<;>rintro ⟨h1,h2,h3⟩<;>exact ⟨h1.symm,h2.symm,h3.symm⟩
theorem atB_self (a:ao):atB a a=true:=gg.2 ⟨rfl,rfl,rfl⟩
theorem atB_trans {a b c:ao} (h1:atB a b=true) (h2:atB b c=true):atB a c=true:=by
 rw [gg] at *
 exact ⟨h1.1.trans h2.1,h1.2.1.trans h2.2.1,h1.2.2.trans h2.2.2⟩
def KS (L:List ao):Prop:=L.Pairwise fun a b=>ek a b<0
def Dist (L:List ao):Prop:=L.Pairwise fun a b=>atB a b=false
def Vld (L:List ao):Prop := ∀ r∈L,ao.Wf r∧dK r=true
theorem KS.uniq {A B:List ao} (ha:KS A) (hb:KS B) (h:A.Perm B):A=B:=
 h.eq_of_pairwise (fun a b _ _ h1 h2=>absurd h2 (by unfold ek at *;rw [cb_neg] at h2;omega)) ha hb
theorem Dist.perm {A B:List ao} (ha:Dist A) (h:A.Perm B):Dist B:=h.pairwise ha (fun {a b} h=>by rw [eg];exact h)
theorem Dist.filter {A:List ao} (ha:Dist A) (p:ao→Bool):Dist (A.filter p):=List.Pairwise.filter p ha
theorem KS.of {L:List ao} (h:L.Pairwise fun a b => ¬ek b a<0) (d:Dist L) (v:Vld L):KS L:=by
 unfold KS Dist at *
 have:=List.Pairwise.and h d
 refine List.Pairwise.imp_of_mem (R:=fun a b => ¬ek b a<0∧atB a b=false) (fun {a b} ha hb hh => ?_) this
 have h2:ek b a = - ek a b:=cb_neg _ _
 have h3:ek a b≠0:=fun e=>by
  have:=key_place (v a ha).1 (v b hb).1 (v a ha).2 (v b hb).2 e
  rw [this] at hh
  exact absurd hh.2 (by decide)
 omega
def leK (a b:ao):Bool := !decide (ek b a<0)
def sortR (L:List ao):List ao:=L.mergeSort leK
theorem fz (L:List ao):(sortR L).Perm L:=List.mergeSort_perm L leK
theorem sortR_ks {L:List ao} (d:Dist L) (v:Vld L):KS (sortR L):=by
 have hp:=fz L
 refine KS.of ?_ (d.perm hp.symm) (fun r hr=>v r (hp.mem_iff.1 hr))
 have h:=List.pairwise_mergeSort (le:=leK) ?_ ?_ L
 ·refine List.Pairwise.imp (fun {a b} hh => ?_) h
  unfold leK at hh
  simpa using hh
 ·intro a b c h1 h2
  unfold leK at *
  simp only [Bool.not_eq_true',decide_eq_false_iff_not] at *
  exact cb_ntrans _ _ _ h2 h1
 ·intro a b
  unfold leK
  have:ek b a = - ek a b:=cb_neg _ _
  simp only [Bool.or_eq_true,Bool.not_eq_true',decide_eq_false_iff_not]
  omega
theorem sortR_uniq {A L:List ao} (d:Dist L) (v:Vld L) (hp:A.Perm L) (h:A.Pairwise fun a b => ¬ek b a<0):A=sortR L:=
 KS.uniq (KS.of h (d.perm hp.symm) fun r hr=>v r (hp.mem_iff.1 hr)) (sortR_ks d v) (hp.trans (fz L).symm)
end Go.Proofs.YtdnahgfgoajmcaaDoor

namespace Go.Proofs.YtdnahgfgoajmcaaDoor
open Go Go.Abs
attribute [local congr] aq
theorem idx_at {r:ao} {M:List ao} {i j:Nat} (h:idx r M=some i) (hj:j<(M.set i r).length) (hj':j<M.length) (x:ao):atB (M.set i r)[j] x=atB M[j] x∧atB x (M.set i r)[j]=atB x M[j]:=by
 obtain ⟨hi,ha,_⟩:=idx_some h
 rw [List.getElem_set]
 split
 ·rename_i e
  subst e
  have h1 : ∀ x,atB r x=atB M[i] x:=fun x=>by
   obtain ⟨e1,e2,e3⟩:=gg.1 ha
   unfold atB
   rw [e1,e2,e3]
  exact ⟨h1 x,by rw [eg,h1,eg]⟩
 ·exact ⟨rfl,rfl⟩
theorem idx_none_all {r:ao} : ∀ {M:List ao},idx r M=none → ∀ x∈M,atB r x=false
 | [],_,x,hx=>by cases hx
 |y::M,h,x,hx=>by
  unfold idx at h
  by_cases e:atB r y=true
  ·rw [if_pos e] at h;cases h
  ·rw [if_neg e] at h
   have h2:idx r M=none:=by
    cases hq:idx r M with
    |none=>rfl
    |some j=>rw [hq] at h;cases h
   rcases List.mem_cons.1 hx with rfl|hx
   ·simpa using e
   ·exact idx_none_all h2 x hx
theorem putM_dist {M:List ao} (d:Dist M) (r:ao):Dist (putM M r):=by
 unfold putM
 cases h:idx r M with
 |none=>
  refine List.pairwise_append.2 ⟨d,by simp,fun a ha b hb => ?_⟩
  rw [List.mem_singleton.1 hb,eg]
  exact idx_none_all h a ha
 |some i=>
  unfold Dist at *
  rw [List.pairwise_iff_getElem] at *
  intro j k hj hk hjk
  have hj':j<M.length:=by simpa using hj
  have hk':k<M.length:=by simpa using hk
  rw [(idx_at h hj hj' _).1,(idx_at h hk hk' _).2]
  exact d j k hj' hk' hjk
theorem mstep_dist {M:List ao} (d:Dist M) (r:ao):Dist (dI M r):=by
 unfold dI
 split
 ·exact putM_dist d r
 ·exact d
theorem putM_mem {M:List ao} {r x:ao} (h:x∈putM M r):x∈M∨x=r:=by
 unfold putM at h
 split at h
 ·exact List.mem_or_eq_of_mem_set h
 ·rcases List.mem_append.1 h with h|h
  ·exact .inl h
  ·exact .inr (List.mem_singleton.1 h)
theorem mstep_vld {M:List ao} (v:Vld M) {r:ao} (w:r.Wf∧dK r=true):Vld (dI M r):=by
 unfold dI
 split
 ·intro x hx
  rcases putM_mem hx with h|rfl
  ·exact v x h
  ·exact w
 ·exact v
def de (L:List ao):List ao:=L.foldl dI []
theorem fold_ok : ∀ (L M:List ao),Dist M→Vld M→Vld L→Dist (L.foldl dI M)∧Vld (L.foldl dI M)
 | [],M,d,v,_=>⟨d,v⟩
 |r::L,M,d,v,w=>fold_ok L (dI M r) (mstep_dist d r) (mstep_vld v (w r List.mem_cons_self)) fun x hx=>w x (List.mem_cons_of_mem _ hx)
theorem newest_ok {L:List ao} (v:Vld L):Dist (de L)∧Vld (de L):=fold_ok L [] .nil (fun _ h=>by cases h) v
theorem putM_len (M:List ao) (r:ao):(putM M r).length≤M.length+1:=by
 unfold putM
 split
 ·rw [List.length_set];omega
 ·rw [List.length_append];simp
theorem fold_len : ∀ (L M:List ao),(L.foldl dI M).length≤M.length+L.length
 | [],M=>Nat.le_refl _
 |r::L,M=>by
  have h1:=fold_len L (dI M r)
  have h2:(dI M r).length≤M.length+1:=by
   unfold dI
   split
   ·exact putM_len M r
   ·omega
  rw [List.foldl_cons,List.length_cons]
  omega
theorem newest_len (L:List ao):(de L).length≤L.length:=by have:=fold_len L [];rw [List.length_nil,Nat.zero_add] at this;exact this
def merged (A B:List ao):List ao:=let M:=de (A++B);sortR (M.filter (fC M))
theorem es_mem {M:List ao} {e:Value×Value×Nat} (h:e∈gm M 0) : ∃ s,∃ hs:s<M.length,e=(plV M[s],dB M[s],s):=by
 obtain ⟨s,hs⟩:=List.mem_iff_getElem?.1 h
 have hl:s<M.length:=by
  have:=(List.getElem?_eq_some_iff.1 hs).1
  rwa [esOf_len] at this
 rw [esOf_get M 0 s hl] at hs
 refine ⟨s,hl,?_⟩
 cases hs
 simp
theorem cands_spec (M:List ao) (seen:List Nat) : ∃ l,candsA (gm M 0) M.length seen M.length=some l ∧ ∀ c∈l,(c=none ∧ ∀ s<M.length,s∈seen) ∨ ∃ s,∃ hs:s<M.length,s∉seen∧c=some (plV M[s],dB M[s],s):=by
 have h1:(!seen.isEmpty && !(gm M 0).isEmpty&&(gm M 0).all fun e=>decide (M.length≤e.2.2))=false:=by
  cases M with
  |nil=>simp [gm]
  |cons r M=>simp [gm]
 unfold candsA
 rw [if_neg (by rw [h1];decide)]
 refine ⟨_,rfl,?_⟩
 intro c hc
 rcases List.mem_append.1 hc with hc|hc
 ·refine .inl ?_
  split at hc
  ·rename_i he
   refine ⟨List.mem_singleton.1 hc,fun s hs => ?_⟩
   rw [List.isEmpty_iff] at he
   have hm:(plV M[s],dB M[s],s)∈gm M 0:=by
    have:=esOf_get M 0 s hs
    rw [Nat.zero_add] at this
    exact List.mem_of_getElem? this
   have h2:(plV M[s],dB M[s],s)∉((gm M 0).filter fun e => !seen.contains e.2.2).filter fun e=>decide (e.2.2<M.length):=by rw [he];exact List.not_mem_nil
   rw [List.mem_filter,List.mem_filter] at h2
   by_cases hh:s∈seen
   ·exact hh
   ·exact absurd ⟨⟨hm,by simpa using hh⟩,by simpa using hs⟩ h2
  ·cases hc
 ·obtain ⟨e,he,rfl⟩:=List.mem_map.1 hc
  have hl:e∈(gm M 0).filter fun e => !seen.contains e.2.2:=by
   rcases List.mem_append.1 he with he|he
   ·exact (List.mem_filter.1 he).1
   ·exact (List.mem_filter.1 he).1
  rw [List.mem_filter] at hl
  obtain ⟨s,hs,rfl⟩:=es_mem hl.1
  exact .inr ⟨s,hs,by simpa using hl.2,rfl⟩
theorem seen_range {n:Nat} {seen:List Nat} (d:seen.Nodup) (h : ∀ s∈seen,s<n):seen.length≤n:=by
 have hp:(seen++(List.range n).filter fun s => !seen.contains s).Perm (List.range n):=by
  refine (List.perm_ext_iff_of_nodup ?_ List.nodup_range).2 fun a => ?_
  ·refine List.nodup_append.2 ⟨d,List.Pairwise.filter _ List.nodup_range,fun a ha b hb e => ?_⟩
   subst e
   rw [List.mem_filter] at hb
   simp [ha] at hb
  ·rw [List.mem_append,List.mem_filter,List.mem_range]
   constructor
   ·rintro (h1|⟨h1,_⟩)
    ·exact h a h1
    ·exact h1
   ·intro h1
    by_cases h2:a∈seen
    ·exact .inl h2
    ·exact .inr ⟨h1,by simpa using h2⟩
 have:=hp.length_eq
 rw [List.length_append,List.length_range] at this
 omega
theorem seen_all {M:List ao} {seen:List Nat} (d:seen.Nodup) (h : ∀ s∈seen,s<M.length) (ha : ∀ s<M.length,s∈seen):(seen.map fun s=>M.getD s ao.z).Perm M:=by
 have hp:seen.Perm (List.range M.length):=(List.perm_ext_iff_of_nodup d List.nodup_range).2 fun a=>by
  rw [List.mem_range]
  exact ⟨h a,ha a⟩
 have e:(List.range M.length).map (fun s=>M.getD s ao.z)=M:=by
  refine List.ext_getElem? fun t => ?_
  rw [List.getElem?_map]
  by_cases ht:t<M.length
  ·rw [List.getElem?_range ht,List.getElem?_eq_getElem ht,Option.map_some,List.getD_eq_getElem?_getD,List.getElem?_eq_getElem ht]
   rfl
  ·rw [List.getElem?_eq_none (by simpa using ht),List.getElem?_eq_none (by omega)]
   rfl
 have:=hp.map fun s=>M.getD s ao.z
 rwa [e] at this
end Go.Proofs.YtdnahgfgoajmcaaDoor

namespace Go.Proofs.YtdnahgfgoajmcaaDoor
open Go Go.Abs
attribute [local congr] aq
theorem seqW' {P:Program} {C:ae} {K:Ex→Env→ab→Prop} {a b:Code} {e:Env} {h:ab} (x:bL P C (ofC C) a e h fun x e' h'=>match x with | .normal=>bL P C (ofC C) b e' h' K|x=>K x e' h'):bL P C (ofC C) (.seq a b) e h K:=by
 simp only [bL]
 exact x
theorem blockW {P:Program} {C:ae} {K:Ex→Env→ab→Prop} {i:Nat} {b:Code} {e:Env} {h:ab} (x:bL P C (ofC C) b e h fun x e' h'=>match x with | .exit j=>K (if j=i then .normal else .exit j) e' h'|x=>K x e' h'):bL P C (ofC C) (.block i b) e h K:=by
 simp only [bL]
 exact x
noncomputable def opAt (p:List Nat) (i:Nat):Oper:=match partOf Tryd.f25 p with | .region _ ops _=>ops.getD i default|_=>default
theorem reg19:partOf Tryd.f25 [1,1,1,1,1,1,0,1,0,0] = .seq (.region 19 #[opAt [1,1,1,1,1,1,0,1,0,0,0] 0,opAt [1,1,1,1,1,1,0,1,0,0,0] 1] false) (partOf Tryd.f25 [1,1,1,1,1,1,0,1,0,0,1]):=by kernel_rfl
theorem op1:(opAt [1,1,1,1,1,1,0,1,0,0,0] 0).op = .next (.tmp 63) false∧(opAt [1,1,1,1,1,1,0,1,0,0,0] 0).dst=some 64∧(opAt [1,1,1,1,1,1,0,1,0,0,0] 0).guard=none:=⟨by kernel_rfl,by kernel_rfl,by kernel_rfl⟩
theorem op2:(opAt [1,1,1,1,1,1,0,1,0,0,0] 1).op = .extract (.tmp 64) 0∧(opAt [1,1,1,1,1,1,0,1,0,0,0] 1).dst=some 65∧(opAt [1,1,1,1,1,1,0,1,0,0,0] 1).guard=none:=⟨by kernel_rfl,by kernel_rfl,by kernel_rfl⟩
theorem blk4:partOf Tryd.f25 [1,1,1,1,1,1,0,1] = .block 4 (.loop (partOf Tryd.f25 [1,1,1,1,1,1,0,1,0,0])):=by kernel_rfl
theorem ne_obj {h:ab} {b c:Nat} {k:Blk} {o:eO} (g:h.get b=some k) (e:h.aF c=some (.obj o)):c≠b:=fun q=>by
 subst q
 rw [h.aT g] at e
 cases e
theorem cE.keep {h h':ab} {N:Nat} {v:Value} {L:List ao} (x:cE h N v L) {B:Nat→Prop} (k:Kept h h' B) (hB : ¬B (rlB v)):cE h' N v L:=by
 obtain ⟨hw,b,s,rfl,h1,h2⟩:=x
 exact ⟨hw,b,s,rfl,k.dX h1 hB,h2⟩
theorem set_getO {h:ab} {b:Nat} {o:eO} {k:BB} (hb:h.n0≤b) (hg:h.aF b=some k):(h.bF b o).aF b=some (.obj o):=by
 unfold ab.bF
 rw [h.cM hb (h.bj hg),if_pos rfl]
theorem loop3W {h0 g0:ab} {M:List ao} {vb mb ib N:Nat} (O:Old h0 g0) (hN:h0.next=N) (m:MapH g0 mb M) (hmb:N≤mb) (hib:N≤ib) (it:IterH g0 ib mb M.length []) (hl:M.length≤1000000) {x:Nat→Value} (x0:x 0=ptr vb 0) (x5:x 5 = .map (some mb)) (x63:x 63=ptr ib 0) (rl:cE g0 N (x 12) [])
  {K:Ex→Env→ab→Prop} (hK : ∀ y g L,y 0=ptr vb 0→Old h0 g→g0.next≤g.next→cE g N (y 12) L→L.Perm (M.filter (fC M))→K .normal (aO 103 y) g) :
  bL Tryd.prog CM (ofC CM) (partOf Tryd.f25 [1,1,1,1,1,1,0,1]) (aO 103 x) g0 K:=by
 rw [blk4]
 refine blockW (loopW_inv (fun k e g => ∃ y seen,e=aO 103 y∧seen.length+k=M.length∧seen.Nodup∧(∀ s∈seen,s<M.length)∧y 0=ptr vb 0∧y 5 = .map (some mb)∧y 63=ptr ib 0∧MapH g mb M∧IterH g ib mb M.length seen∧Old h0 g∧g0.next≤g.next∧cE g N (y 12) ((seen.map fun s=>M.getD s ao.z).filter (fC M))) ?_ (fun e h K K'=>codeW_mono _) (k:=M.length) (by have:rounds=18446744073709551616:=rfl;omega) ⟨x,[],rfl,by simp,List.nodup_nil,by simp,x0,x5,x63,m,it,O,Nat.le_refl _,rl⟩)
 rintro k e g ⟨y,seen,rfl,hk,nd,hs,y0,y5,y63,mg,ig,Og,hn,rg⟩
 have n0g:g.n0≤N:=by rw [Og.n0,←hN];exact h0.ax
 rw [reg19]
 obtain ⟨l,hl2,hc⟩:=cands_spec M seen
 refine seqW' (Go.Abs.nextW op1.1 op1.2.1 op1.2.2 op2.1 op2.2.1 op2.2.2 (n:=103) (by decide) (by decide) (l:=l.map fun c=>stepTo ib mb M.length seen M.length c g) ?_ ?_)
 ·rw [y63]
  unfold nextsA ptr
  simp only [show g.aF ib=_ from ig,mg.1,hl2,Option.map_some]
 ·rintro r hr
  obtain ⟨c,hcm,rfl⟩:=List.mem_map.1 hr
  rcases hc c hcm with ⟨rfl,hall⟩|⟨s,hsl,hsn,rfl⟩
  ·refine ⟨.bool false,rfl,?_⟩
   refine codeA_W _ (t25p25_11111101001_eq CM _ _) ?_
   exact hK _ g _ y0 Og hn rg ((seen_all nd hs hall).filter _)
  ·refine ⟨.bool true,rfl,?_⟩
   show bL Tryd.prog CM (ofC CM) _ (aO 103 (up y [(65,.bool true),(64,.tuple #[.bool true,plV M[s],dB M[s]])])) (g.bF ib (.iter (some mb) M.length (seen ++ [s]) M.length)) _
   have nib:g.n0≤ib:=Nat.le_trans n0g hib
   have kS:=Kept.bF (o := .iter (some mb) M.length (seen ++ [s]) M.length) nib ig
   have iS:IterH (g.bF ib (.iter (some mb) M.length (seen ++ [s]) M.length)) ib mb M.length (seen ++ [s]):=set_getO nib ig
   have hne:mb≠ib:=fun e=>by
    have h1:=mg.1
    have h2:g.aF ib=_:=ig
    rw [e,h2] at h1
    cases h1
   have mS:MapH (g.bF ib (.iter (some mb) M.length (seen ++ [s]) M.length)) mb M:=⟨kS.obj mg.1 hne,mg.2⟩
   have rS:=rg.keep kS (fun e=>ne_obj rg.cx.2 ig e.symm)
   have OS:Old h0 (g.bF ib (.iter (some mb) M.length (seen ++ [s]) M.length)):=Og.also kS (fun d hd q=>by omega)
   have nS:(g.bF ib (.iter (some mb) M.length (seen ++ [s]) M.length)).next=g.next:=rfl
   generalize g.bF ib (.iter (some mb) M.length (seen ++ [s]) M.length)=gS at *
   have hlen:((seen.map fun s=>M.getD s ao.z).filter (fC M)).length≤1000000:=by
    have h1:=List.length_filter_le (fC M) (seen.map fun s=>M.getD s ao.z)
    rw [List.length_map] at h1
    omega
   obtain ⟨z,g2,e2,z0,z5,z63,r2,k2⟩:=mrg_entry (x:=up y [(65,.bool true),(64,.tuple #[.bool true,plV M[s],dB M[s]])]) hsl mS iS y5 y63 rfl rS (by rw [OS.n0,←hN];exact h0.ax) (by rw [←hN];exact OS.next) hlen
   refine codeA_W _ ((t25p25_11111101001_eq CM _ _).trans e2) ?_
   have hnd:(seen ++ [s]).Nodup:=List.nodup_append.2 ⟨nd,by simp,fun a ha b hb e=>by
    rw [List.mem_singleton.1 hb] at e
    subst e
    exact hsn ha⟩
   have hlt : ∀ t∈seen ++ [s],t<M.length:=fun t ht=>by
    rcases List.mem_append.1 ht with h|h
    ·exact hs t h
    ·rw [List.mem_singleton.1 h];exact hsl
   have hle:=seen_range hnd hlt
   rw [List.length_append,List.length_singleton] at hle
   have rb:=rS.cx
   refine ⟨k-1,by omega,z,seen ++ [s],rfl,by rw [List.length_append,List.length_singleton];omega,hnd,hlt,z0.trans y0,z5,z63,⟨k2.obj mS.1 (ne_obj rb.2 mS.1),mS.2⟩,k2.obj iS (ne_obj rb.2 iS),OS.also k2 (fun d hd q => ?_),Nat.le_trans (by rw [nS];exact hn) k2.next,?_⟩
   ·have:d=rlB (y 12):=q
    have:=rb.1
    omega
   ·rw [List.map_append,List.filter_append]
    have e3:M.getD s ao.z=M[s]:=by rw [List.getD_eq_getElem?_getD,List.getElem?_eq_getElem hsl];rfl
    rw [List.map_cons,List.map_nil,e3]
    have e4 : [M[s]].filter (fC M)=if fC M M[s]=true then [M[s]] else []:=by
     rw [List.filter_cons];rfl
    rw [e4]
    exact r2
end Go.Proofs.YtdnahgfgoajmcaaDoor

namespace Go.Proofs.YtdnahgfgoajmcaaDoor
open Go Go.Abs
attribute [local congr] aq
theorem is61:cd Tryd.prog 61 Tryd.f61:=⟨by kernel_rfl,by kernel_rfl,by kernel_rfl,by kernel_rfl⟩
theorem is25:cd Tryd.prog 25 Tryd.f25:=⟨by kernel_rfl,by kernel_rfl,by kernel_rfl,by kernel_rfl⟩
theorem call61 (args:List Value) (h:ab):callA Tryd.prog CW (.func (.func 61) #[] #[]) args h=CW 61 args h:=by
 have hf:=Nat.le_of_ble_eq_true fs_124
 unfold callA
 simp only
 generalize Tryd.prog.funcs.size=n at *
 rw [if_pos (show (61:Nat)<n by omega),List.nil_append,List.append_nil]
theorem r61 {h:ab} (hG:4≤h.n0) {r:ao} (w:r.Wf) : ∃ h',CW 61 [.agg (recC r).toArray] h=some (.bool (!(dK r)),h')∧Old h h':=by
 obtain ⟨h1,b1,o1,g1,n1⟩:=dG h w
 have L1:=bh g1 (bg w).1 (bg w).2.1
 obtain ⟨h2,e2,o2⟩:=r42 (h:=h1) (by rw [o1.n0];exact hG) w
 refine ⟨h2,aC is61 hG rfl ((t61_eq _ _ _).trans ?_),o1.trans o2⟩
 unfold t61
 simp -implicitDefEqProofs only [b1,L1,e2,aX,ad,af]
theorem RSl.uniq {h:ab} {v:Value} {A B:List ao} (x:RSl h v A) (y:RSl h v B):A=B:=by
 obtain ⟨⟨a,c,rfl⟩,hA,hx⟩:=x
 obtain ⟨⟨a',c',e⟩,hB,hy⟩:=y
 injection e with e1 e2 e3
 refine List.ext_getElem e2 fun j h1 h2 => ?_
 obtain ⟨b,o,p1,p2,p3⟩:=hx j h1
 obtain ⟨b',o',q1,q2,q3⟩:=hy j h2
 rw [p1] at q1
 injection q1 with q1
 have hp:ptr b o=ptr b' o':=q1
 have v1:=p3 h rfl
 have v2:=q3 h rfl
 rw [←hp,v1] at v2
 simp only [Option.some.injEq,Prod.mk.injEq,and_true] at v2
 have wa:=hA _ (List.getElem_mem h1)
 have wb:=hB _ (List.getElem_mem h2)
 rw [List.getD_eq_getElem?_getD,List.getElem?_eq_getElem h1,List.getD_eq_getElem?_getD,List.getElem?_eq_getElem h2] at v2
 simp only [Option.getD_some,Value.agg.injEq,List.toArray_inj] at v2
 exact recC_inj wa.obj.1 wb.obj.1 (congrArg Array.toList v2)
structure MrgOk (args:List Value) (h:ab) (vb:Nat) (va:Value) (La:List ao) (vr:Value) (Lr:List ao):Prop where
 args:args = [ptr vb 0,vr]
 n0:h.n0≤vb
 get:h.get vb=some [va]
 own:RSl h va La
 new:RSl h vr Lr
 vld:Vld La
 la:La.length≤500000
 lr:Lr.length≤500000
def mrgH (h:ab) (vb:Nat) (R:List ao):ab:=(h.set vb [.slice (some ⟨h.next,0,if R = [] then none else some 39⟩) R.length R.length]).alloc (ba R)
open Classical in
noncomputable def s25 (args:List Value) (h:ab):Out:=
 if x : ∃ vb va La vr Lr,MrgOk args h vb va La vr Lr then
  if gI x.choose_spec.choose_spec.choose_spec.choose_spec.choose=true then some (.int .i64 2,h)
  else some (.int .i64 0,mrgH h x.choose (merged x.choose_spec.choose_spec.choose x.choose_spec.choose_spec.choose_spec.choose_spec.choose))
 else none
theorem s25_spec {args:List Value} {h:ab} {r:Value×ab} (e:s25 args h=some r) : ∃ vb va La vr Lr,MrgOk args h vb va La vr Lr∧((gI Lr=true∧r=(.int .i64 2,h))∨(gI Lr=false∧r=(.int .i64 0,mrgH h vb (merged La Lr)))):=by
 unfold s25 at e
 split at e
 ·rename_i x
  refine ⟨_,_,_,_,_,x.choose_spec.choose_spec.choose_spec.choose_spec.choose_spec,?_⟩
  split at e
  ·rename_i hi
   cases e
   exact .inl ⟨hi,rfl⟩
  ·rename_i hi
   cases e
   exact .inr ⟨by simpa using hi,rfl⟩
 ·cases e
theorem s25_eq {args:List Value} {h:ab} {vb:Nat} {va vr:Value} {La Lr:List ao} (x:MrgOk args h vb va La vr Lr):s25 args h=if gI Lr=true then some (.int .i64 2,h) else some (.int .i64 0,mrgH h vb (merged La Lr)):=by
 have hx : ∃ vb va La vr Lr,MrgOk args h vb va La vr Lr:=⟨_,_,_,_,_,x⟩
 have hs : ∃ r,s25 args h=some r:=by
  unfold s25
  rw [dif_pos hx]
  split
  ·exact ⟨_,rfl⟩
  ·exact ⟨_,rfl⟩
 obtain ⟨r,hr⟩:=hs
 obtain ⟨vb',va',La',vr',Lr',y,hy⟩:=s25_spec hr
 have e:=x.args.symm.trans y.args
 simp only [List.cons.injEq,and_true] at e
 obtain ⟨e1,e2⟩:=e
 have eb:vb'=vb:=by
  injection e1 with e1
  injection e1 with e1
  injection e1 with e1
  exact e1.symm
 subst eb e2
 have ea:va'=va:=by
  have h1:=x.get
  rw [y.get] at h1
  simpa using h1
 subst ea
 have eA:=x.own.uniq y.own
 have eR:=x.new.uniq y.new
 subst eA eR
 rw [hr]
 rcases hy with ⟨h1,rfl⟩|⟨h1,rfl⟩
 ·rw [if_pos h1]
 ·rw [if_neg (by rw [h1];exact Bool.false_ne_true)]
end Go.Proofs.YtdnahgfgoajmcaaDoor

namespace Go.Proofs.YtdnahgfgoajmcaaDoor
open Go Go.Abs
attribute [local congr] aq
theorem sq0:partOf Tryd.f25 [] = .seq (partOf Tryd.f25 [0]) (partOf Tryd.f25 [1]):=by kernel_rfl
theorem sq1:partOf Tryd.f25 [1] = .seq (partOf Tryd.f25 [1,0]) (partOf Tryd.f25 [1,1]):=by kernel_rfl
theorem sq2:partOf Tryd.f25 [1,1] = .seq (partOf Tryd.f25 [1,1,0]) (partOf Tryd.f25 [1,1,1]):=by kernel_rfl
theorem sq3:partOf Tryd.f25 [1,1,1] = .seq (partOf Tryd.f25 [1,1,1,0]) (partOf Tryd.f25 [1,1,1,1]):=by kernel_rfl
theorem sq4:partOf Tryd.f25 [1,1,1,1] = .seq (partOf Tryd.f25 [1,1,1,1,0]) (partOf Tryd.f25 [1,1,1,1,1]):=by kernel_rfl
theorem sq5:partOf Tryd.f25 [1,1,1,1,1] = .seq (partOf Tryd.f25 [1,1,1,1,1,0]) (partOf Tryd.f25 [1,1,1,1,1,1]):=by kernel_rfl
theorem sq6:partOf Tryd.f25 [1,1,1,1,1,1] = .seq (partOf Tryd.f25 [1,1,1,1,1,1,0]) (partOf Tryd.f25 [1,1,1,1,1,1,1]):=by kernel_rfl
theorem sq7:partOf Tryd.f25 [1,1,1,1,1,1,0] = .seq (partOf Tryd.f25 [1,1,1,1,1,1,0,0]) (partOf Tryd.f25 [1,1,1,1,1,1,0,1]):=by kernel_rfl
theorem bod25:Tryd.f25.body=some (partOf Tryd.f25 []):=by kernel_rfl
theorem env25 (a b:Value):([a,b]++List.replicate (Tryd.f25.ntmps - [a,b].length) undef:Env)=aO 103 (bs [a,b]):=by kernel_rfl
theorem res25:Tryd.f25.results.toList = [.tmp 4]:=by kernel_rfl
theorem nil25 (b:Nat):bin Tryd.prog .eql 25 (ptr b 0) (.pointer none)=some (.bool false):=by kernel_rfl
theorem sort_list {h:ab} {N:Nat} {v:Value} {L:List ao} (x:cE h N v L) (h0:h.n0≤N) (hl:L.length≤1000000) (d:Dist L) (vl:Vld L) :
  ∃ h',CM 64 [v,.func (.func 65) #[] #[]] h=some (.tuple #[],h')∧h'.get (rlB v)=some (ba (sortR L))∧Kept h h' (· = rlB v):=by
 obtain ⟨hw,b,s,rfl,g1,g2,g3⟩:=x
 have hlw : ∃ LW:List RecW,LW.map (·.1)=L:=by
  refine ⟨L.attach.map fun x=>⟨x.1,hw x.1 x.2⟩,?_⟩
  rw [List.map_map]
  exact List.attach_map_subtype_val L
 obtain ⟨LW,rfl⟩:=hlw
 rw [List.length_map] at hl ⊢
 have hn0:h.n0≤b:=Nat.le_trans h0 g2
 have ok:SortOk [.slice (some ⟨b,0,s⟩) LW.length LW.length,.func (.func 65) #[] #[]] h b LW:=by
  refine ⟨⟨s,rfl,?_⟩,hn0,by rw [g1,flatW],by omega⟩
  rcases g3 with ⟨_,rfl⟩|⟨hne,rfl⟩
  ·exact .inl rfl
  ·exact .inr ⟨rfl,fun e=>hne (by rw [e];rfl)⟩
 have hs : ∃ r,s64 [.slice (some ⟨b,0,s⟩) LW.length LW.length,.func (.func 65) #[] #[]] h=some r:=by
  unfold s64
  rw [dif_pos ⟨b,LW,ok⟩]
  exact ⟨_,rfl⟩
 obtain ⟨r,hr⟩:=hs
 obtain ⟨b',L',⟨⟨s',ea,_⟩,_,hg,_⟩,e2⟩:=s64_spec hr
 simp only [List.cons.injEq,Value.slice.injEq,Option.some.injEq,Addr.mk.injEq,true_and,and_true] at ea
 obtain ⟨⟨rfl,_⟩,elen,_⟩:=ea
 have eL:L'.map (·.1)=LW.map (·.1):=by
  rw [g1,flatW] at hg
  have hg:ba (LW.map (·.1))=ba (L'.map (·.1)):=by simpa using hg
  refine List.ext_getElem (by simp [elen]) fun j h1 h2 => ?_
  have w1:=mapW_wf L'
  have w2:=mapW_wf LW
  have q1:=recsC_get w1 h1
  have q2:=recsC_get w2 h2
  rw [hg,q1] at q2
  rw [List.getD_eq_getElem?_getD,List.getElem?_eq_getElem h1,List.getD_eq_getElem?_getD,List.getElem?_eq_getElem h2] at q2
  exact recC_inj (w1 _ (List.getElem_mem h1)).obj.1 (w2 _ (List.getElem_mem h2)).obj.1 q2
 have hsrt:(pdqL L').map (·.1)=sortR (LW.map (·.1)):=by
  obtain ⟨p1,p2,p3⟩:=pdqL_facts L'
  refine sortR_uniq d vl (by rw [←eL];exact p1.map _) ?_
  rw [List.pairwise_iff_getElem]
  intro i j hi hj hij
  rw [List.length_map] at hi hj
  have:=p3 i j hij (by omega)
  rw [getElem!_pos _ j hj,getElem!_pos _ i hi] at this
  simpa using this
 subst e2
 refine ⟨_,CM_sort hr,?_,Kept.set hn0 g1 (.inr rfl)⟩
 show (h.set b _).get b=_
 rw [flatW,hsrt]
 unfold ab.set
 rw [h.get_put hn0 (h.aP g1),if_pos rfl]
 rfl
end Go.Proofs.YtdnahgfgoajmcaaDoor

namespace Go.Proofs.YtdnahgfgoajmcaaDoor
open Go Go.Abs
attribute [local congr] aq
theorem mrgH_next (h:ab) (vb:Nat) (R:List ao):(mrgH h vb R).next=h.next+1:=rfl
theorem mrgH_getB {h:ab} {vb:Nat} {va:Value} (R:List ao) (n0:h.n0≤vb) (g:h.get vb=some [va]) (b:Nat) :
  (mrgH h vb R).aF b=if b=h.next then some (.cells (ba R)) else if b=vb then some (.cells [.slice (some ⟨h.next,0,if R = [] then none else some 39⟩) R.length R.length]) else h.aF b:=by
 unfold mrgH
 rw [ab.cA,ab.next_set]
 by_cases e:b=h.next
 ·rw [if_pos e,if_pos e]
 ·rw [if_neg e,if_neg e]
  unfold ab.set
  exact h.cM n0 (h.aP g) _ _
theorem merged_wf {A B:List ao} (v:Vld (A++B)):Vld (merged A B)∧KS (merged A B):=by
 obtain ⟨d,w⟩:=newest_ok v
 have d2:=d.filter (fC (de (A++B)))
 have w2:Vld ((de (A++B)).filter (fC (de (A++B)))):=fun r hr=>w r (List.mem_filter.1 hr).1
 exact ⟨fun r hr=>w2 r ((fz _).mem_iff.1 hr),sortR_ks d2 w2⟩
theorem recsC_flat {R:List ao} (v : ∀ r∈R,ao.Wf r):flatAll (ba R)=true:=by
 unfold flatAll ba
 rw [List.all_eq_true]
 intro x hx
 obtain ⟨r,hr,hx⟩:=List.mem_flatMap.1 hx
 have:=(cq (v r hr)).all.2.2
 unfold flatAll at this
 rw [List.all_eq_true] at this
 exact this x hx
theorem slice_bd (n b l:Nat) (s:Option Nat) (h:b<n):bW n (.slice (some ⟨b,0,s⟩) l l)=true:=by
 cases s<;>simp [bW,h]
theorem body25 {h:ab} {vb:Nat} {va vr:Value} {La Lr:List ao} (x:MrgOk [ptr vb 0,vr] h vb va La vr Lr) (hG:4≤h.n0) (hbh:az h) {K:Value→ab→Prop}
  (k2:gI Lr=true → ∀ g,Old h g→K (.int .i64 2) g)
  (k0:gI Lr=false → ∀ g B,h.next≤B→g.aF B=some (.cells (ba (merged La Lr)))→g.aF vb=some (.cells [.slice (some ⟨B,0,if merged La Lr = [] then none else some 39⟩) (merged La Lr).length (merged La Lr).length])→(∀ c,c<h.next→c≠vb→g.aF c=h.aF c)→K (.int .i64 0) g) :
  bodyW Tryd.prog CM (ofC CM) Tryd.f25 [ptr vb 0,vr] h K:=by
 have hnn:=h.ax
 unfold bodyW
 rw [bod25]
 simp only
 rw [env25,sq0]
 refine seqW (t25p25_0_eq CM _ _) ?_
 rw [sq1]
 refine seqW ((t25p25_10_eq CM _ _).trans (by
  unfold t25p25_10
  simp -implicitDefEqProofs only [show ∀ y,up (bs [ptr vb 0,vr]) [(4,y)] 0=ptr vb 0 from fun _=>rfl,nil25,ad,af]
  rfl)) ?_
 rw [sq2]
 obtain ⟨h1,e60,o1⟩:=r60 (fv := .func (.func 61) #[] #[]) hG x.new (by have:=x.lr;omega) (fun r => !(dK r)) (fun r _ w g o=>by
  rw [call61]
  exact r61 (by rw [o.n0];exact hG) w)
 have e60:=CM_up rfl e60
 have e60:CM 60 [vr,.func (.func 61) #[] #[]] h=some (.bool (gI Lr),h1):=e60
 cases hi:gI Lr with
 |true=>
  rw [hi] at e60
  refine seqW_ret ((t25p25_110_eq CM _ _).trans (by
   unfold t25p25_110
   simp -implicitDefEqProofs only [show ∀ (x:Nat→Value) l,up (up x l) [] 1=up x l 1 from fun _ _=>rfl,show ∀ y a b,up (up (bs [ptr vb 0,vr]) [(4,y)]) [(18,a),(19,b)] 1=vr from fun _ _ _=>rfl,e60,ad,af]
   rfl)) ?_
  refine ⟨.int .i64 2,h1,?_,k2 hi h1 o1⟩
  rw [res_one res25 (by decide)]
  rfl
 |false=>
  rw [hi] at e60
  refine seqW ((t25p25_110_eq CM _ _).trans (by
   unfold t25p25_110
   simp -implicitDefEqProofs only [show ∀ y a b,up (up (bs [ptr vb 0,vr]) [(4,y)]) [(18,a),(19,b)] 1=vr from fun _ _ _=>rfl,e60,ad,af]
   rfl)) ?_
  rw [sq3]
  have em:fX none Tryd.prog 98 h1=some (.map (some h1.next),h1.aZ (.obj (.map [] 0))):=rfl
  refine seqW ((t25p25_1110_eq CM _ _).trans (by
   unfold t25p25_1110
   simp -implicitDefEqProofs only [em,ad,af]
   rfl)) ?_
  have o2:Old h (h1.aZ (.obj (.map [] 0))):=o1.trans ⟨rfl,by simp,fun c hc _=>by rw [ab.bx,if_neg (by omega)]⟩
  have m2:MapH (h1.aZ (.obj (.map [] 0))) h1.next []:=⟨by rw [ab.bx,if_pos rfl];rfl,fun _ h=>by cases h⟩
  have hmb:h.next≤h1.next:=o1.next
  generalize hh2:h1.aZ (.obj (.map [] 0))=h2 at *
  generalize h1.next=mb at *
  rw [sq4]
  obtain ⟨y3,h3,e3,o3,n3,m3,y30,y35⟩:=mrg_lists (x:=up (up (up (bs [ptr vb 0,vr]) [(4,.int .i64 0)]) [(18,ptr vb 0),(19,.bool false)]) [(20,vr),(21,.bool false)] |> fun z=>up z [(5,.map (some mb)),(22,.map (some mb))]) hG o2 hmb m2 x.own x.new (by have:=x.la;omega) (by have:=x.lr;omega) (Old.get o2 x.get) rfl rfl rfl
  refine seqW ((t25p25_11110_eq CM _ _).trans e3) ?_
  clear hh2
  have vl:Vld (La++Lr):=fun r hr=>by
   rcases List.mem_append.1 hr with h1|h1
   ·exact x.vld r h1
   ·exact ⟨x.new.2.1 r h1,invB_false hi r h1⟩
  obtain ⟨dM,wM⟩:=newest_ok vl
  have lM:=newest_len (La++Lr)
  rw [List.length_append] at lM
  have lA:=x.la
  have lB:=x.lr
  have m3:MapH h3 mb (de (La++Lr)):=m3
  have eM:merged La Lr=sortR ((de (La++Lr)).filter (fC (de (La++Lr)))):=rfl
  generalize de (La++Lr)=M at *
  rw [sq5]
  have eb:cO 39 (.agg #[(.int .u8 0),(.int .u8 0),(.int .u8 0),(.int .u8 0),(.int .u8 0),(.int .u8 0),(.int .u8 0),(.int .u8 0),(.int .u8 0),(.int .u8 0),(.int .u8 0),(.int .u8 0),(.int .u8 0),(.int .u8 0),(.int .u8 0),(.int .u8 0),(.int .u8 0),(.int .u8 0),(.int .u8 0),(.int .u8 0),(.int .u8 0),(.int .u8 0),(.int .u8 0),(.int .u8 0),(.int .u8 0),(.int .u8 0),(.int .u8 0),(.int .u8 0),(.int .u8 0),(.int .u8 0),(.int .u8 0),(.int .u8 0),(.int .u8 0),(.int .i64 0),(.int .u64 0),(.int .u64 0),(.bool false),(.int .i64 0),(.int .i64 0)]) 0 [] h3=some (.slice (some ⟨h3.next,0,none⟩) 0 0,h3.alloc []):=rfl
  refine seqW ((t25p25_111110_eq CM _ _).trans (by
   unfold t25p25_111110
   simp -implicitDefEqProofs only [eb,ad,af]
   rfl)) ?_
  have o4:Old h3 (h3.alloc []):=Kept.alloc _ _ _
  have m4:=m3.mono o4
  have r4:cE (h3.alloc []) h.next (.slice (some ⟨h3.next,0,none⟩) 0 0) []:=⟨(fun _ h=>by cases h),h3.next,none,rfl,by rw [ab.aK,if_pos rfl];rfl,o3.next,.inl ⟨rfl,rfl⟩⟩
  have O4:=o3.trans o4
  generalize h3.alloc []=h4 at *
  generalize Value.slice (some ⟨h3.next,0,none⟩) 0 0=v4 at *
  rw [sq6]
  refine seqW' ?_
  rw [sq7]
  have er:rangeA Tryd.prog 98 (.map (some mb)) h4=some (ptr h4.next 0,h4.aZ (.obj (.iter (some mb) M.length [] M.length))):=by
   unfold rangeA
   simp only [map98,m4.1]
  refine seqW ((t25p25_11111100_eq CM _ _).trans (by
   unfold t25p25_11111100
   simp -implicitDefEqProofs only [show up y3 [(12,v4),(61,v4)] 5=y3 5 from rfl,y35,er,ad,af]
   rfl)) ?_
  have o5:Old h4 (h4.aZ (.obj (.iter (some mb) M.length [] M.length))):=⟨rfl,by simp,fun c hc _=>by rw [ab.bx,if_neg (by omega)]⟩
  have it:IterH (h4.aZ (.obj (.iter (some mb) M.length [] M.length))) h4.next mb M.length []:=by
   unfold IterH
   rw [ab.bx,if_pos rfl]
  have m5:=m4.mono o5
  have r5:=r4.bS o5
  have O5:=O4.trans o5
  have hib:h.next≤h4.next:=O4.next
  generalize h4.aZ (.obj (.iter (some mb) M.length [] M.length))=h5 at *
  generalize h4.next=ib at *
  refine loop3W (x:=up (up y3 [(12,v4),(61,v4)]) [(62,.map (some mb)),(63,ptr ib 0)]) (h0:=h) (N:=h.next) O5 rfl m5 hmb hib it (by omega) y30 y35 rfl r5 ?_
  intro y g L z0 Og _ rg hp
  have d2:=dM.filter (fC M)
  have w2:Vld (M.filter (fC M)):=fun r hr=>wM r (List.mem_filter.1 hr).1
  have dL:Dist L:=d2.perm hp.symm
  have wL:Vld L:=fun r hr=>w2 r (hp.mem_iff.1 hr)
  have esrt:sortR L=merged La Lr:=by
   rw [eM]
   exact KS.uniq (sortR_ks dL wL) (sortR_ks d2 w2) (((fz L).trans hp).trans (fz _).symm)
  have elen:(merged La Lr).length=L.length:=by rw [←esrt];exact (fz L).length_eq
  have hlL:L.length≤1000000:=by
   have h1:=hp.length_eq
   have h2:=List.length_filter_le (fC M) M
   omega
  have n0g:g.n0≤h.next:=by rw [Og.n0];exact hnn
  obtain ⟨h6,e64,g6,k6⟩:=sort_list rg n0g hlL dL wL
  have rb:=rg.cx
  have vlt:vb<h.next:=h.aP x.get
  have g6v:h6.get vb=some [va]:=k6.dX (Old.get Og x.get) (by omega)
  obtain ⟨_,B,s,ev,_,hB,hs⟩:=rg
  have hrl:rlB (y 12)=B:=by rw [ev];rfl
  rw [hrl] at g6 k6 rb
  have n6:h6.n0≤vb:=by rw [k6.n0,Og.n0];exact x.n0
  have est:eT 1 (ptr vb 0) (y 12) h6=some (undef,h6.set vb [y 12]):=stN1_at g6v (Nat.zero_lt_one) n6 (by rw [ev];rfl) (by rw [ev];rfl)
  have nc:aN (ptr vb 0)=some (ptr vb 0):=rfl
  refine codeA_W _ ((t25p25_1111111_eq CM _ _).trans (by
   unfold t25p25_1111111
   simp -implicitDefEqProofs only [e64,z0,nc,aB,Nat.zero_add,est,ad,af]
   rfl)) ?_
  refine ⟨.int .i64 0,h6.set vb [y 12],?_,?_⟩
  ·rw [res_one res25 (by decide)]
   rfl
  ·have hne:B≠vb:=by omega
   have hs':s=if merged La Lr = [] then none else some 39:=by
    rcases hs with ⟨h1,h2⟩|⟨h1,h2⟩
    ·rw [if_pos (by
      rw [←List.length_eq_zero_iff,elen,h1];rfl),h2]
    ·rw [if_neg (fun e=>h1 (by rw [←List.length_eq_zero_iff,←elen,e];rfl)),h2]
   refine k0 hi _ B hB ?_ ?_ ?_
   ·unfold ab.set
    rw [h6.cM n6 (h6.aP g6v),if_neg hne,h6.aT g6,esrt]
   ·unfold ab.set
    rw [h6.cM n6 (h6.aP g6v),if_pos rfl,ev,elen,hs']
   ·intro c hc hcv
    unfold ab.set
    rw [h6.cM n6 (h6.aP g6v),if_neg hcv,k6.aF c (Nat.lt_of_lt_of_le hc Og.next) (by omega),Og.aF c hc (fun h=>h)]
theorem c25:cw Tryd.prog 25 s25:=by
 refine cw.of_bodyW CM_sound (ofC_sound CM_sound) prog_mixed is25 ?_ ?_ ?_
 ·intro args h v h' e
  obtain ⟨vb,va,La,vr,Lr,x,⟨_,e⟩|⟨_,e⟩⟩:=s25_spec e
  ·cases e
   exact Grow.refl _
  ·cases e
   exact ⟨by rw [mrgH_next];omega,rfl,rfl⟩
 ·intro args h v h' e _ hh
  obtain ⟨vb,va,La,vr,Lr,x,⟨_,e⟩|⟨hi,e⟩⟩:=s25_spec e
  ·cases e
   exact ⟨rfl,hh⟩
  ·cases e
   refine ⟨rfl,?_⟩
   have vl:Vld (La++Lr):=fun r hr=>by
    rcases List.mem_append.1 hr with h1|h1
    ·exact x.vld r h1
    ·exact ⟨x.new.2.1 r h1,invB_false hi r h1⟩
   have hw:=(merged_wf vl).1
   generalize merged La Lr=R at *
   refine ⟨fun b k hk => ?_,fun b o ho => ?_⟩
   ·have hk:=ab.aT _ hk
    rw [mrgH_getB R x.n0 x.get] at hk
    rw [mrgH_next]
    split at hk
    ·cases hk
     exact dE (recsC_flat fun r hr=>(hw r hr).1)
    ·split at hk
     ·cases hk
      simp only [cC,Bool.and_true]
      exact slice_bd _ _ _ _ (by omega)
     ·exact bR (by omega) (hh b k (h.cB hk))
   ·rw [mrgH_getB R x.n0 x.get] at ho
    rw [mrgH_next]
    split at ho
    ·cases ho
    ·split at ho
     ·cases ho
     ·exact bdO_mono (by omega) (hh.obj b o ho)
 ·intro args h v h' e _ hh hg
  obtain ⟨vb,va,La,vr,Lr,x,hc⟩:=s25_spec e
  have ea:=x.args
  subst ea
  have hG:4≤h.n0:=by rw [←globals4];exact hg
  refine body25 x hG hh ?_ ?_
  ·intro hi g o
   rcases hc with ⟨_,e⟩|⟨h1,_⟩
   ·cases e
    exact ⟨id,Gc.none rfl hh fun b k h1 h2=>(o.aF b (h.bj h2) (fun h=>h)).trans h2⟩
   ·rw [hi] at h1;cases h1
  ·intro hi g B hB gB gv go
   rcases hc with ⟨h1,_⟩|⟨_,e⟩
   ·rw [hi] at h1;cases h1
   ·cases e
    have vl:Vld (La++Lr):=fun r hr=>by
     rcases List.mem_append.1 hr with h1|h1
     ·exact x.vld r h1
     ·exact ⟨x.new.2.1 r h1,invB_false hi r h1⟩
    have hw:=(merged_wf vl).1
    have vlt:=h.aP x.get
    generalize merged La Lr=R at *
    refine ⟨ren1 h.next B,⟨fun b hb => ?_,fun b h1 h2 => ?_,fun b b' h1 h2 h3 h4 _ => ?_,rfl,fun b k h1 hk => ?_⟩⟩
    ·unfold ren1;rw [if_neg (by omega)]
    ·rw [mrgH_next] at h2
     unfold ren1
     rw [if_pos (by omega)]
     exact hB
    ·rw [mrgH_next] at h2 h4;omega
    ·rw [mrgH_getB R x.n0 x.get] at hk
     split at hk
     ·rename_i e
      cases hk
      have h2:ren1 h.next B b=B:=by unfold ren1;rw [if_pos e]
      rw [h2,gB]
      show _=some (BB.cells (renL _ _))
      rw [renL_id (n:=0) (fun b hb=>absurd hb (Nat.not_lt_zero b)) _ (dE (recsC_flat fun r hr=>(hw r hr).1))]
     ·rename_i e
      have h2:ren1 h.next B b=b:=by unfold ren1;rw [if_neg e]
      rw [h2]
      split at hk
      ·rename_i e2
       cases hk
       subst e2
       rw [gv]
       show _=some (BB.cells [dW _ _])
       have : ∀ s:Option Nat,dW (ren1 h.next B) (.slice (some ⟨h.next,0,s⟩) R.length R.length) = .slice (some ⟨B,0,s⟩) R.length R.length:=fun s=>by
        cases s<;>simp [dW,ren1]
       rw [this]
      ·rename_i e2
       have hlt:=h.bj hk
       rw [go b hlt e2,hk,renB_id (n:=h.next) (fun c hc=>by unfold ren1;rw [if_neg (by omega)]) (hh.bb hk)]
end Go.Proofs.YtdnahgfgoajmcaaDoor

namespace Go.Proofs.YtdnahgfgoajmcaaDoor
open Go Go.Abs
open Go.ChangeShapes Go.WideShapes Go.ChangeAt Go.RowKit
section
variable {H:Type} {enc:TypeId×Value→H} {W:World} {base:Nat} {held:Bool}
end
end Go.Proofs.YtdnahgfgoajmcaaDoor

namespace Go.Proofs.YtdnahgfgoajmcaaDoor
open Go Go.Abs
attribute [local congr] aq
theorem is33:cd Tryd.prog 33 Tryd.f33:=⟨by kernel_rfl,by kernel_rfl,by kernel_rfl,by kernel_rfl⟩
theorem is57:cd Tryd.prog 57 Tryd.f57:=⟨by kernel_rfl,by kernel_rfl,by kernel_rfl,by kernel_rfl⟩
theorem is23:cd Tryd.prog 23 Tryd.f23:=⟨by kernel_rfl,by kernel_rfl,by kernel_rfl,by kernel_rfl⟩
theorem is19:cd Tryd.prog 19 Tryd.f19:=⟨by kernel_rfl,by kernel_rfl,by kernel_rfl,by kernel_rfl⟩
theorem r33 {h:ab} (hG:4≤h.n0):CW 33 [] h=some (ptr h.next 0,h.alloc [.slice none 0 0]):=by
 have e1:eW [(.slice none 0 0)] []=some (.agg #[.slice none 0 0]):=rfl
 have e2:box (.agg #[.slice none 0 0]) h=some (ptr h.next 0,h.alloc [.slice none 0 0]):=rfl
 refine aC is33 hG rfl ((t33_eq _ _).trans ?_)
 unfold t33
 simp -implicitDefEqProofs only [e1,e2,ad,af]
theorem nilS22 (c:Nat) (a:Addr) (n:Nat):bin Tryd.prog .eql 22 (.slice (some a) n c) (.slice none 0 0)=some (.bool false):=by kernel_rfl
theorem nilT22:bin Tryd.prog .eql 22 (.slice none 0 0) (.slice none 0 0)=some (.bool true):=by kernel_rfl
def nilOk (v:Value):Prop:=v = .slice none 0 0 ∨ ∃ a n c,v = .slice (some a) n c∧n≤c ∧ ∀ t,a.spot=some t→t=39
theorem r57 {h:ab} (hG:4≤h.n0) {v:Value} {L:List ao} (x:RcS h v L) (hn:nilOk v) (hl:L.length≤1000000) : ∃ v' h',CW 57 [v] h=some (v',h')∧Old h h'∧RSl h' v' L:=by
 rcases hn with rfl|⟨a,n,c,rfl,_⟩
 ·refine ⟨.slice none 0 0,h,aC is57 hG rfl ((t57_eq _ _ _).trans ?_),Kept.refl _ _,x.rsl⟩
  unfold t57
  simp -implicitDefEqProofs only [nilT22,ad,af]
 ·obtain ⟨v',h',e,o,r,g⟩:=app_recs x hl
  have b0:cO 39 (.agg #[(.int .u8 0),(.int .u8 0),(.int .u8 0),(.int .u8 0),(.int .u8 0),(.int .u8 0),(.int .u8 0),(.int .u8 0),(.int .u8 0),(.int .u8 0),(.int .u8 0),(.int .u8 0),(.int .u8 0),(.int .u8 0),(.int .u8 0),(.int .u8 0),(.int .u8 0),(.int .u8 0),(.int .u8 0),(.int .u8 0),(.int .u8 0),(.int .u8 0),(.int .u8 0),(.int .u8 0),(.int .u8 0),(.int .u8 0),(.int .u8 0),(.int .u8 0),(.int .u8 0),(.int .u8 0),(.int .u8 0),(.int .u8 0),(.int .u8 0),(.int .i64 0),(.int .u64 0),(.int .u64 0),(.bool false),(.int .i64 0),(.int .i64 0)]) 0 [] h=some (.slice (some ⟨h.next,0,none⟩) 0 0,h.alloc []):=rfl
  refine ⟨v',h',aC is57 hG rfl ((t57_eq _ _ _).trans ?_),o,r⟩
  unfold t57
  simp -implicitDefEqProofs only [nilS22,b0,e,ad,af]
theorem r23 {h:ab} (hG:4≤h.n0) {vb:Nat} {va:Value} {L:List ao} (gv:h.get vb=some [va]) (x:RcS h va L) (hn:nilOk va) (hl:L.length≤1000000) : ∃ v' h',CW 23 [ptr vb 0] h=some (v',h')∧Old h h'∧RSl h' v' L:=by
 obtain ⟨v',h',e,o,r⟩:=r57 hG x hn hl
 have l1:ld1 (ptr vb 0) h=some (va,h):=aQ gv rfl (by rcases hn with rfl|⟨a,n,c,rfl,_⟩<;>rfl)
 have nc:aN (ptr vb 0)=some (ptr vb 0):=rfl
 refine ⟨v',h',aC is23 hG rfl ((t23_eq _ _ _).trans ?_),o,r⟩
 unfold t23
 simp -implicitDefEqProofs only [nil25,nc,aB,Nat.zero_add,l1,e,ad,af]
theorem nq58 {a b:ao} (wa:a.Wf) (wb:b.Wf):bin Tryd.prog .neq 58 (dB a) (dB b)=some (.bool (!(decide (a=b)))):=by
 obtain ⟨r,h1,_,h3⟩:=eq58 _ _ (cq wa) (cq wb)
 have:r=decide (a=b):=by
  by_cases e:a=b
  ·rw [decide_eq_true e,h1.2 (by rw [e])]
  ·rw [decide_eq_false e]
   cases r with
   |false=>rfl
   |true=>exact absurd (recC_inj wa.obj.1 wb.obj.1 (h1.1 rfl)) e
 rw [h3,this]
theorem nq3 (a b:Nat):bin Tryd.prog .neq 3 (ak a) (ak b)=some (.bool (!(decide (a=b)))):=by
 rw [a7]
 congr 2
 by_cases e:a=b
 ·subst e;simp
 ·have:(a:Int)≠b:=by omega
  simp [e,this]
theorem results19:Tryd.f19.results.toList = [.tmp 4]:=by kernel_rfl
theorem b19_6e (C:ae) (e:Env) (h:ab):b19_6 C 0 e h=k19_4 C e h:=rfl
set_option maxRecDepth 100000 in
theorem r19 {h:ab} (hG:4≤h.n0) {v w:Value} {A B:List ao} (hv:RSl h v A) (hw:RSl h w B) (hl:A.length≤1000000):CW 19 [v,w] h=some (.bool (decide (A=B)),h):=by
 have la:=hv.len
 have lb:=hw.len
 refine aC is19 hG rfl ((t19_eq _ _ _ _).trans ?_)
 unfold t19
 simp -implicitDefEqProofs only [la,lb,nq3,ad,af]
 by_cases e:A.length=B.length
 ·simp -implicitDefEqProofs only [decide_eq_true e,Bool.not_true]
  refine bO (n:=26) (fin:=fun ex y g=>g=h∧((ex = .exit 0∧A=B)∨(ex = .ret∧A≠B∧y 4 = .bool false))) (Q:=fun o:Out=>o=some (.bool (decide (A=B)),h))
   (bP (t19l19_11010_eq CW) (Inv:=fun k y g => ∃ i,i+k=A.length∧y 0=v∧y 1=w∧y 5=ak i∧g=h∧A.take i=B.take i) ?_ A.length (by have:rounds=18446744073709551616:=rfl;omega) ⟨0,by omega,rfl,rfl,rfl,rfl,rfl⟩) ?_
  ·rintro k y g ⟨i,hik,y0,y1,y5,rfl,ht⟩
   unfold t19l19_11010
   simp -implicitDefEqProofs only [y0,y5,la,lss3,ad,af]
   by_cases hi:i<A.length
   ·have hi2:i<B.length:=by omega
    obtain ⟨b,o,ix,wr,mr,lp⟩:=hv.at hi
    obtain ⟨b',o',ix',wr',mr',lp'⟩:=hw.at hi2
    have eA:A.getD i ao.z=A[i]:=by rw [List.getD_eq_getElem?_getD,List.getElem?_eq_getElem hi];rfl
    have eB:B.getD i ao.z=B[i]:=by rw [List.getD_eq_getElem?_getD,List.getElem?_eq_getElem hi2];rfl
    have L1:=lp g (Kept.refl _ _)
    have L2:=lp' g (Kept.refl _ _)
    simp -implicitDefEqProofs only [decide_eq_true hi,y0,y1,y5,ix,ix',L1,L2,nq58 wr wr',ad,af]
    by_cases hab:A.getD i ao.z=B.getD i ao.z
    ·have a5:bin Tryd.prog .add 3 (ak i) (.int .i64 1)=some (ak (i+1)):=fc (by omega)
     simp -implicitDefEqProofs only [decide_eq_true hab,Bool.not_true,a5,ad,af]
     refine dU.next (k-1) (by omega) ⟨i+1,by omega,y0,y1,rfl,rfl,?_⟩
     rw [List.take_succ_eq_append_getElem hi,List.take_succ_eq_append_getElem hi2,ht,←eA,←eB,hab]
    ·simp -implicitDefEqProofs only [decide_eq_false hab,Bool.not_false,ad,af]
     refine dU.ret ⟨rfl,.inr ⟨rfl,fun q=>hab (by rw [q]),rfl⟩⟩
   ·have hiE:i=A.length:=by omega
    simp -implicitDefEqProofs only [decide_eq_false hi,ad,af]
    refine dU.out 0 ⟨rfl,.inl ⟨rfl,?_⟩⟩
    rw [List.take_of_length_le (by omega),List.take_of_length_le (by omega)] at ht
    exact ht
  ·rintro ex z g ⟨rfl,⟨rfl,q⟩|⟨rfl,q,z4⟩⟩
   ·simp -implicitDefEqProofs only [bB,b19_6e,t19k19_4_eq]
    unfold t19k19_4
    rw [decide_eq_true q]
    rfl
   ·rw [endL_ret,res_one results19 (by decide),z4,decide_eq_false q]
 ·simp -implicitDefEqProofs only [decide_eq_false e,Bool.not_false,ad]
  rw [decide_eq_false (fun q=>e (by rw [q]))]
theorem gtrN (a b:Nat):bin Tryd.prog .gtr 3 (ak a) (ak b)=some (.bool (decide (b<a))):=by
 rw [bp]
 congr 2
 by_cases e:b<a
 ·rw [decide_eq_true e,decide_eq_true (by omega)]
 ·rw [decide_eq_false e,decide_eq_false (by omega)]
theorem gtrC (a:Nat) (n:Int) (b:Nat) (e:n=b):bin Tryd.prog .gtr 3 (ak a) (.int .i64 n)=some (.bool (decide (b<a))):=by subst e;exact gtrN a b
end Go.Proofs.YtdnahgfgoajmcaaDoor

namespace Go.Proofs.YtdnahgfgoajmcaaDoor
open Go Go.Abs
def lexI:List Int→List Int→Int
 |x::a,y::b=>if x<y then -1 else if y<x then 1 else lexI a b
 |_,_=>0
theorem lexI_neg : ∀ a b:List Int,lexI b a = - lexI a b
 | [],[]=>rfl
 | [],_::_=>rfl
 |_::_,[]=>rfl
 |x::a,y::b=>by
  unfold lexI
  by_cases h1:x<y
  ·have h2 : ¬y<x:=by omega
   simp [h1,h2]
  ·by_cases h2:y<x
   ·simp [h1,h2]
   ·simp only [h1,h2,if_false]
    exact lexI_neg a b
theorem lexI_trans : ∀ a b c:List Int,a.length=b.length→b.length=c.length→lexI a b≤0→lexI b c≤0→lexI a c≤0
 | [],_,_,_,_,_,_=>by unfold lexI;exact Int.le_refl _
 |x::a,[],_,h,_,_,_=>by cases h
 |x::a,y::b,[],_,h,_,_=>by cases h
 |x::a,y::b,z::c,l1,l2,h1,h2=>by
  unfold lexI at h1 h2 ⊢
  by_cases e1:x<y
  ·by_cases e2:y<z
   ·rw [if_pos (by omega)];decide
   ·rw [if_neg e2] at h2
    by_cases e3:z<y
    ·rw [if_pos e3] at h2;omega
    ·rw [if_pos (by omega)];decide
  ·rw [if_neg e1] at h1
   by_cases e4:y<x
   ·rw [if_pos e4] at h1;omega
   ·rw [if_neg e4] at h1
    by_cases e2:y<z
    ·rw [if_pos (by omega)];decide
    ·rw [if_neg e2] at h2
     by_cases e3:z<y
     ·rw [if_pos e3] at h2;omega
     ·rw [if_neg e3] at h2
      rw [if_neg (by omega),if_neg (by omega)]
      exact lexI_trans a b c (by simpa using l1) (by simpa using l2) h1 h2
theorem lexI_eq : ∀ a b:List Int,a.length=b.length→lexI a b=0→a=b
 | [],[],_,_=>rfl
 | [],_::_,h,_=>by cases h
 |_::_,[],h,_=>by cases h
 |x::a,y::b,l,h=>by
  unfold lexI at h
  by_cases e1:x<y
  ·rw [if_pos e1] at h;omega
  ·rw [if_neg e1] at h
   by_cases e2:y<x
   ·rw [if_pos e2] at h;omega
   ·rw [if_neg e2] at h
    rw [lexI_eq a b (by simpa using l) h,show x=y by omega]
def ageL (r:ao):List Int := [r.inc,r.num,if r.held then 1 else 0,r.k,r.n]
theorem cmpR_lex (a b:ao):cmpR a b=lexI (ageL a) (ageL b):=by
 have key : ∀ (x y z:Int),(if gx x y=0 then z else gx x y)=if x<y then -1 else if y<x then 1 else z:=by
  intro x y z
  unfold gx
  by_cases h1:x<y
  ·simp [h1]
  ·by_cases h2:y<x
   ·simp [h1,h2]
   ·simp [h1,h2]
 have hh:(if a.held=b.held then (0:Int) else if a.held then 1 else -1)=gx (if a.held then 1 else 0) (if b.held then 1 else 0):=by
  unfold gx
  cases a.held<;>cases b.held<;>simp
 unfold cmpR
 rw [hh]
 unfold ageL
 simp only [orL,key,lexI]
theorem cmpR_neg (a b:ao):cmpR b a = - cmpR a b:=by rw [cmpR_lex,cmpR_lex,lexI_neg]
theorem cmpR_trans {a b c:ao} (h1:cmpR a b≤0) (h2:cmpR b c≤0):cmpR a c≤0:=by
 rw [cmpR_lex] at *
 exact lexI_trans (ageL a) (ageL b) (ageL c) (by rfl) (by rfl) h1 h2
theorem cmpR_self (a:ao):cmpR a a=0:=by
 have:=cmpR_neg a a
 omega
theorem cmpR_eq {a b:ao} (hp:atB a b=true) (h:cmpR a b=0):a=b:=by
 rw [cmpR_lex] at h
 have e:=lexI_eq (ageL a) (ageL b) (by rfl) h
 unfold ageL at e
 simp only [List.cons.injEq,and_true] at e
 obtain ⟨e1,e2,e3,e4,e5⟩:=e
 obtain ⟨p1,p2,p3⟩:=gg.1 hp
 have e6:a.held=b.held:=by
  cases h1:a.held<;>cases h2:b.held<;>rw [h1,h2] at e3<;>first|rfl|(simp at e3)
 exact ao.ext p1 p2 p3 (by omega) (by omega) e6 e4 e5
theorem cmpR_inc {a b:ao} (h:cmpR a b≤0):a.inc≤b.inc:=by
 rw [cmpR_lex] at h
 unfold ageL lexI at h
 by_cases h1:(a.inc:Int)<b.inc
 ·omega
 ·rw [if_neg h1] at h
  by_cases h2:(b.inc:Int)<a.inc
  ·rw [if_pos h2] at h;omega
  ·omega
def Top (L:List ao) (x:ao):Prop:=x∈L ∧ ∀ y∈L,atB x y=true→cmpR y x≤0
def Void (L:List ao) (x:ao):Prop:=x.kind=3∧((∃ y∈L,y.kind=2∧y.obj=x.obj) ∨ ∃ y∈L,y.kind=1∧y.aH=x.aH∧x.inc<y.inc)
def Nf (L:List ao) (x:ao):Prop:=Top L x ∧ ¬Void L x
structure MOf (P M:List ao):Prop where
 dist:Dist M
 sub : ∀ x∈M,x∈P
 cov : ∀ y∈P,∃ z∈M,atB y z=true∧cmpR y z≤0
theorem Dist.eq {M:List ao} (d:Dist M) {x y:ao} (hx:x∈M) (hy:y∈M) (h:atB x y=true):x=y:=by
 unfold Dist at d
 rw [List.pairwise_iff_getElem] at d
 obtain ⟨i,hi,rfl⟩:=List.mem_iff_getElem.1 hx
 obtain ⟨j,hj,rfl⟩:=List.mem_iff_getElem.1 hy
 rcases Nat.lt_trichotomy i j with h1|h1|h1
 ·rw [d i j hi hj h1] at h;cases h
 ·subst h1;rfl
 ·rw [eg,d j i hj hi h1] at h;cases h
theorem MOf.mem {P M:List ao} (m:MOf P M) (x:ao):x∈M↔Top P x:=by
 constructor
 ·intro hx
  refine ⟨m.sub x hx,fun y hy h => ?_⟩
  obtain ⟨z,hz,h1,h2⟩:=m.cov y hy
  have:x=z:=m.dist.eq hx hz (atB_trans h h1)
  rw [this];exact h2
 ·rintro ⟨h1,h2⟩
  obtain ⟨z,hz,h3,h4⟩:=m.cov x h1
  have h5:=h2 z (m.sub z hz) h3
  have h6:=cmpR_neg x z
  have:x=z:=cmpR_eq h3 (by omega)
  rw [this];exact hz
theorem fnd_none {r:ao} {M:List ao} (h:fnd r M=none) : ∀ x∈M,atB r x=false:=by
 unfold fnd at h
 rw [List.find?_eq_none] at h
 intro x hx
 have:=h x hx
 simpa using this
theorem mem_putM {M:List ao} {r x:ao} (d:Dist M):x∈putM M r↔(x∈M∧atB r x=false)∨x=r:=by
 unfold putM
 cases h:idx r M with
 |none=>
  have hn:=idx_none_all h
  rw [List.mem_append,List.mem_singleton]
  constructor
  ·rintro (h1|h1)
   ·exact .inl ⟨h1,hn x h1⟩
   ·exact .inr h1
  ·rintro (h1|h1)
   ·exact .inl h1.1
   ·exact .inr h1
 |some i=>
  obtain ⟨hi,ha,_⟩:=idx_some h
  constructor
  ·intro hx
   obtain ⟨j,hj,rfl⟩:=List.mem_iff_getElem.1 hx
   rw [List.getElem_set]
   split
   ·exact .inr rfl
   ·rename_i hne
    have hj':j<M.length:=by simpa using hj
    refine .inl ⟨List.getElem_mem hj',?_⟩
    cases e:atB r M[j] with
    |false=>rfl
    |true=>
     have hd:=d
     unfold Dist at hd
     rw [List.pairwise_iff_getElem] at hd
     have h3:atB M[i] M[j]=true:=atB_trans (by rw [eg];exact ha) e
     rcases Nat.lt_or_gt_of_ne hne with h1|h1
     ·rw [hd i j hi hj' h1] at h3;cases h3
     ·rw [eg,hd j i hj' hi h1] at h3;cases h3
  ·rintro (⟨h1,h2⟩|rfl)
   ·obtain ⟨j,hj,rfl⟩:=List.mem_iff_getElem.1 h1
    have hne:i≠j:=fun e=>by subst e;rw [ha] at h2;cases h2
    exact List.mem_iff_getElem.2 ⟨j,by simpa using hj,by
     show (M.set i r)[j]'_=M[j]
     rw [List.getElem_set,if_neg hne]⟩
   ·exact List.mem_iff_getElem.2 ⟨i,by simpa using hi,by
     show (M.set i x)[i]'_=x
     rw [List.getElem_set_self]⟩
theorem MOf.step {P M:List ao} (m:MOf P M) (r:ao):MOf (P ++ [r]) (dI M r):=by
 have hneg:=fun a b=>cmpR_neg a b
 unfold dI
 split
 ·rename_i hn
  refine ⟨putM_dist m.dist r,fun x hx => ?_,fun y hy => ?_⟩
  ·rcases putM_mem hx with h|rfl
   ·exact List.mem_append_left _ (m.sub x h)
   ·exact List.mem_append_right _ List.mem_cons_self
  ·rcases List.mem_append.1 hy with h|h
   ·obtain ⟨z,hz,h1,h2⟩:=m.cov y h
    cases e:atB r z with
    |false=>exact ⟨z,(mem_putM m.dist).2 (.inl ⟨hz,e⟩),h1,h2⟩
    |true=>
     refine ⟨r,(mem_putM m.dist).2 (.inr rfl),atB_trans h1 (by rw [eg];exact e),?_⟩
     cases hf:fnd r M with
     |none=>rw [fnd_none hf z hz] at e;cases e
     |some q=>
      have hq:=fnd_mem hf
      have:q=z:=m.dist.eq hq.1 hz (atB_trans (by rw [eg];exact hq.2) e)
      subst this
      unfold needs at hn
      rw [hf] at hn
      simp only [Option.isSome_some,Bool.not_true,Option.getD_some,Bool.false_or,decide_eq_true_eq] at hn
      have h5:=hneg r q
      exact cmpR_trans h2 (by omega)
   ·rw [List.mem_singleton.1 h]
    exact ⟨r,(mem_putM m.dist).2 (.inr rfl),atB_self r,by rw [cmpR_self];exact Int.le_refl _⟩
 ·rename_i hn
  refine ⟨m.dist,fun x hx=>List.mem_append_left _ (m.sub x hx),fun y hy => ?_⟩
  rcases List.mem_append.1 hy with h|h
  ·exact m.cov y h
  ·rw [List.mem_singleton.1 h]
   cases hf:fnd r M with
   |none=>exact absurd (by unfold needs;rw [hf];rfl) hn
   |some q=>
    have hq:=fnd_mem hf
    refine ⟨q,hq.1,hq.2,?_⟩
    unfold needs at hn
    rw [hf] at hn
    simp only [Option.isSome_some,Bool.not_true,Option.getD_some,Bool.false_or,decide_eq_true_eq] at hn
    omega
theorem mof_fold : ∀ (L P M:List ao),MOf P M→MOf (P++L) (L.foldl dI M)
 | [],P,M,m=>by rw [List.append_nil];exact m
 |r::L,P,M,m=>by
  have:=mof_fold L (P ++ [r]) (dI M r) (m.step r)
  rw [List.append_assoc] at this
  exact this
theorem mof_newest (L:List ao):MOf L (de L):=by
 have:=mof_fold L [] [] ⟨.nil,(fun _ h=>by cases h),(fun _ h=>by cases h)⟩
 rwa [List.nil_append] at this
theorem newest_mem (L:List ao) (x:ao):x∈de L↔Top L x:=(mof_newest L).mem x
theorem keep_iff {L:List ao} (v:Vld L) (x:ao):fC (de L) x=true ↔ ¬Void L x:=by
 have m:=mof_newest L
 have hg:(fnd (gN x.obj) (de L)).isSome=true ↔ ∃ y∈L,y.kind=2∧y.obj=x.obj:=by
  constructor
  ·intro h
   obtain ⟨q,hq⟩:=Option.isSome_iff_exists.1 h
   obtain ⟨h1,h2⟩:=fnd_mem hq
   obtain ⟨e1,e2,_⟩:=gg.1 h2
   exact ⟨q,m.sub q h1,e1.symm,e2.symm⟩
  ·rintro ⟨y,hy,h1,h2⟩
   obtain ⟨z,hz,h3,_⟩:=m.cov y hy
   have hh:y.aH=0:=by
    rcases recB_cases (v y hy).2 with h|h|h
    ·omega
    ·rw [h.2];rfl
    ·omega
   cases hf:fnd (gN x.obj) (de L) with
   |some q=>rfl
   |none=>
    have:=fnd_none hf z hz
    rw [show atB (gN x.obj) z=true from atB_trans (b:=y) (gg.2 ⟨h1.symm,h2.symm,hh.symm⟩) h3] at this
    cases this
 have hb:x.inc<((fnd (baseP x.aH) (de L)).getD ao.z).inc ↔ ∃ y∈L,y.kind=1∧y.aH=x.aH∧x.inc<y.inc:=by
  constructor
  ·intro h
   cases hf:fnd (baseP x.aH) (de L) with
   |none=>
    rw [hf] at h
    exact absurd h (Nat.not_lt_zero _)
   |some q=>
    rw [hf] at h
    obtain ⟨h1,h2⟩:=fnd_mem hf
    obtain ⟨e1,_,e3⟩:=gg.1 h2
    exact ⟨q,m.sub q h1,e1.symm,e3.symm,h⟩
  ·rintro ⟨y,hy,h1,h2,h3⟩
   obtain ⟨z,hz,h4,h5⟩:=m.cov y hy
   have ho:y.obj=z32:=by
    rcases recB_cases (v y hy).2 with h|h|h
    ·rw [h.2.1];rfl
    ·omega
    ·omega
   have h6:atB (baseP x.aH) z=true:=atB_trans (b:=y) (gg.2 ⟨h1.symm,ho.symm,h2.symm⟩) h4
   cases hf:fnd (baseP x.aH) (de L) with
   |none=>rw [fnd_none hf z hz] at h6;cases h6
   |some q=>
    obtain ⟨q1,q2⟩:=fnd_mem hf
    have:q=z:=m.dist.eq q1 hz (atB_trans (by rw [eg];exact q2) h6)
    subst this
    have:=cmpR_inc h5
    exact Nat.lt_of_lt_of_le h3 this
 unfold fC Void
 rw [Bool.not_eq_true',←Bool.not_eq_true,Bool.and_eq_true,Bool.or_eq_true,decide_eq_true_eq,decide_eq_true_eq,hg,hb]
theorem merged_mem {A B:List ao} (v:Vld (A++B)) (x:ao):x∈merged A B↔Nf (A++B) x:=by
 show x∈sortR _↔_
 rw [(fz _).mem_iff,List.mem_filter,newest_mem,keep_iff v]
 exact Iff.rfl
theorem KS.ext {A B:List ao} (ha:KS A) (hb:KS B) (h : ∀ x,x∈A↔x∈B):A=B:=by
 have nd : ∀ {L:List ao},KS L→L.Nodup:=fun {L} k=>by
  refine List.Pairwise.imp (fun {a b} hh e => ?_) k
  subst e
  have:ek a a=0:=Go.Proofs.YtdnahgfgoajmcaaDoor.cb_self _
  omega
 exact ha.uniq hb ((List.perm_ext_iff_of_nodup (nd ha) (nd hb)).2 h)
end Go.Proofs.YtdnahgfgoajmcaaDoor

namespace Go.Proofs.YtdnahgfgoajmcaaDoor
open Go Go.Abs
attribute [local congr] aq
noncomputable abbrev YV:ae:=callL [(25,s25)]
abbrev SV:List Nat := [14,16,17,18,19,20,21,22,23,24,26,27,28,29,30,33,34,35,36,37,42,53,54,55,57,100,102,129,130,131,132,133,134]
theorem YV_sound:aU Tryd.prog YV:=callL_sound _ (by
 intro p hp
 simp only [List.mem_cons,List.not_mem_nil,or_false] at hp
 subst hp
 exact c25)
noncomputable def CV:ae:=CC2 Tryd.prog XX YV SV
theorem YV_none {f:FuncId} (hf:f≠25) (args:List Value) (h:ab):YV f args h=none:=by
 show (if f=25 then s25 args h else none)=none
 rw [if_neg hf]
theorem CV_up {f:FuncId} {args:List Value} {h:ab} {r:Value×ab} (hS:SV.contains f=true) (hf:f≠25) (e:CW f args h=some r):CV f args h=some r:=CC2_up hS (YV_none hf _ _) e
theorem CV_body {f:FuncId} {fn:Func} (i:cd Tryd.prog f fn) {args:List Value} {h:ab} {r:Value×ab} (hg:4≤h.n0) (hS:SV.contains f=false) (hf:f≠25) (e:bw Tryd.prog CV fn args h=some r):CV f args h=some r:=
 CC2_body i (by rw [globals4];exact hg) hS (YV_none hf _ _) e
theorem r14V {h:ab} (g:h.get 3=some bZ):CV 14 [] h=some (.bool true,h):=CV_up rfl (by decide) (r14 g)
structure IvH (h:ab) (vb:Nat) (L:List ao):Prop where
 n0:h.n0≤vb
 ex : ∃ va,h.get vb=some [va]∧RcS h va L∧nilOk va
 vld:Vld L
 ks:KS L
theorem IvH.bS {h h':ab} {vb:Nat} {L:List ao} (x:IvH h vb L) (o:Old h h'):IvH h' vb L:=by
 obtain ⟨va,h1,h2,h3⟩:=x.ex
 exact ⟨by rw [o.n0];exact x.n0,⟨va,Old.get o h1,h2.mono o,h3⟩,x.vld,x.ks⟩
theorem ey {P:List ao} (hd : ∀ p∈P,ao.Wf p):TypedN recK P.length (ba P):=by
 refine ⟨cG hd,fun i hi => ?_⟩
 rw [show recK.length=39 from rfl,recsC_get hd hi]
 refine cq (hd _ ?_)
 rw [List.getD_eq_getElem?_getD,List.getElem?_eq_getElem hi]
 exact List.getElem_mem hi
theorem RcS.of_blk {h:ab} {b n c:Nat} {s:Option Nat} {P:List ao} (hd : ∀ p∈P,ao.Wf p) (hn:n=P.length) (hg:h.get b=some (ba P)):RcS h (.slice (some ⟨b,0,s⟩) n c) P:=by
 subst hn
 have hl:=cG hd
 refine ⟨hd,some ⟨b,0,s⟩,c,rfl,(fun h=>by cases h),ey hd,fun _=>⟨b,0,s,ba P,rfl,hg,?_,?_⟩⟩
 ·rw [show recK.length=39 from rfl,hl,Nat.zero_add]
  exact Nat.le_refl _
 ·rw [show recK.length=39 from rfl,List.drop_zero,←hl,List.take_length]
theorem cE.rcs {h:ab} {N:Nat} {v:Value} {L:List ao} (x:cE h N v L):RcS h v L:=by
 obtain ⟨hw,b,s,rfl,h1,_⟩:=x
 exact RcS.of_blk hw rfl h1
theorem r25B {h:ab} {vb:Nat} {v:Value} {L R:List ao} (I:IvH h vb L) (x:RSl h v R) (vr : ∀ r∈R,dK r=true) (hL:L.length≤500000) (hR:R.length≤500000) :
  ∃ h',CV 25 [ptr vb 0,v] h=some (.int .i64 0,h')∧IvH h' vb (merged L R)∧Kept h h' (· = vb) ∧ ∀ va b,h'.get vb=some [va]→slB va=some b→b=h.next:=by
 obtain ⟨va,gv,ra,na⟩:=I.ex
 have ok:MrgOk [ptr vb 0,v] h vb va L v R:=⟨rfl,I.n0,gv,ra.rsl,x,I.vld,hL,hR⟩
 have hi:gI R=false:=by
  unfold gI
  rw [List.any_eq_false]
  intro r hr
  rw [vr r hr]
  decide
 have e:=s25_eq ok
 rw [if_neg (by rw [hi];exact Bool.false_ne_true)] at e
 have vl:Vld (L++R):=fun r hr=>by
  rcases List.mem_append.1 hr with h1|h1
  ·exact I.vld r h1
  ·exact ⟨x.2.1 r h1,vr r h1⟩
 obtain ⟨wv,wk⟩:=merged_wf vl
 generalize merged L R=M at *
 have vlt:=h.aP gv
 have gB:=mrgH_getB (h:=h) M I.n0 gv
 have k:Kept h (mrgH h vb M) (· = vb):=⟨rfl,by rw [mrgH_next];omega,fun c hc hn=>by rw [gB,if_neg (by omega),if_neg hn]⟩
 have g1:(mrgH h vb M).get vb=some [.slice (some ⟨h.next,0,if M = [] then none else some 39⟩) M.length M.length]:=ab.cB _ (by rw [gB,if_neg (by omega),if_pos rfl])
 have g2:(mrgH h vb M).get h.next=some (ba M):=ab.cB _ (by rw [gB,if_pos rfl])
 refine ⟨_,CC2_known e,⟨I.n0,⟨_,g1,RcS.of_blk (fun r hr=>(wv r hr).1) rfl g2,.inr ⟨_,_,_,rfl,Nat.le_refl _,fun t e=>by
  have e:(if M = [] then none else some 39)=some t:=e
  split at e
  ·cases e
  ·exact (Option.some.inj e).symm⟩⟩,wv,wk⟩,k,fun va' b' e1 e2 => ?_⟩
 rw [g1] at e1
 cases e1
 cases hM:M.length with
 |zero=>rw [hM] at e2;cases e2
 |succ n=>rw [hM] at e2;cases e2;rfl
theorem r25 {h:ab} {vb:Nat} {v:Value} {L R:List ao} (I:IvH h vb L) (x:RSl h v R) (vr : ∀ r∈R,dK r=true) (hL:L.length≤500000) (hR:R.length≤500000) :
  ∃ h',CV 25 [ptr vb 0,v] h=some (.int .i64 0,h')∧IvH h' vb (merged L R)∧Kept h h' (· = vb):=by
 obtain ⟨h',e,i,k,_⟩:=r25B I x vr hL hR
 exact ⟨h',e,i,k⟩
theorem cE.pushL {h:ab} {N:Nat} {v w:Value} {L P:List ao} (x:cE h N v L) (y:RcS h w P) (h0:h.n0≤N) (hN:N≤h.next) (hl:L.length≤1000000) (hp:P.length≤1000000) :
  ∃ v' h',aD 39 88 v w h=some (v',h')∧cE h' N v' (L++P)∧Kept h h' (· = rlB v)∧(rlB v'=rlB v∨rlB v'=h.next):=by
 obtain ⟨hw,b,s,rfl,g1,g2,g3⟩:=x
 obtain ⟨hd,a,c,rfl,hn,ht,hy⟩:=y
 by_cases hz:P.length=0
 ·have hP:P = []:=List.length_eq_zero_iff.1 hz
  subst hP
  refine ⟨.slice (some ⟨b,0,s⟩) L.length L.length,h,?_,by rw [List.append_nil];exact ⟨hw,b,s,rfl,g1,g2,g3⟩,Kept.refl _ _,.inl rfl⟩
  have hf:bc 39 0 (.slice a 0 c) h=some []:=by
   unfold bc
   cases a with
   |none=>rfl
   |some a=>obtain ⟨b',off,s'⟩:=a;rfl
  unfold aD
  simp only [List.length_nil,lenA,hf]
  rw [if_neg (by simp [aJ];omega),if_pos (by omega),if_pos trivial]
 ·obtain ⟨b',off,s',k,rfl,hk,hlen,hcs⟩:=hy (by omega)
  rw [show recK.length=39 from rfl] at hlen hcs
  have cr:=hI hd
  have lp:=cG hd
  have lc:=cG hw
  have ok:=hI hw
  have hw' : ∀ q∈L++P,ao.Wf q:=fun q hq=>by
   rcases List.mem_append.1 hq with h1|h1
   ·exact hw q h1
   ·exact hd q h1
  have lT:(L++P).length=L.length+P.length:=List.length_append
  have hne:L++P ≠ []:=fun e=>by
   have:=congrArg List.length e
   rw [lT,List.length_nil] at this
   omega
  have hf:bc 39 P.length (.slice (some ⟨b',off,s'⟩) P.length c) h=some (ba P):=by
   unfold bc
   simp only
   rw [if_neg (by omega),hk]
   simp only
   rw [hcs,if_pos ⟨hlen,cr.1⟩]
  have hcond:(!(aJ (ba P)) || !(decide ((L.length+P.length)*88≤140737488355328)) || !(decide (L.length+P.length≤4611686018427387904))||decide ((ba P).length≠P.length*39))=false:=by
   rw [cr.2,decide_eq_true (by omega:(L.length+P.length)*88≤140737488355328),decide_eq_true (by omega:L.length+P.length≤4611686018427387904),decide_eq_false (by rw [lp];simp)]
   rfl
  have hfo:bc 39 L.length (.slice (some ⟨b,0,s⟩) L.length L.length) h=some (ba L):=by
   unfold bc
   simp only
   by_cases hz2:L.length*39=0
   ·rw [if_pos hz2]
    rw [List.length_eq_zero_iff.1 (by omega:L.length=0)]
    rfl
   ·have e:((ba L).drop 0).take (L.length*39)=ba L:=by rw [List.drop_zero,List.take_of_length_le (by omega)]
    rw [if_neg hz2,g1]
    simp only
    rw [e,if_pos ⟨by omega,ok.1⟩]
  have fin : ∀ g:ab,N≤g.next→cE (g.alloc (ba L++ba P)) N (.slice (some ⟨g.next,0,some 39⟩) (L.length+P.length) (L.length+P.length)) (L++P):=fun g hg=>
   ⟨hw',g.next,some 39,by rw [lT],by rw [ab.aK,if_pos rfl,recsC_app],hg,.inr ⟨hne,rfl⟩⟩
  rcases g3 with ⟨_,rfl⟩|⟨_,rfl⟩
  ·refine ⟨.slice (some ⟨h.next,0,some 39⟩) (L.length+P.length) (L.length+P.length),h.alloc (ba L++ba P),?_,fin h hN,(Kept.alloc _ _ _),.inr rfl⟩
   unfold aD
   simp only [lenA,hf]
   rw [if_neg (by rw [hcond];decide),if_neg (by omega)]
   simp only [hfo]
   rw [if_neg (by omega)]
  ·refine ⟨.slice (some ⟨h.next,0,some 39⟩) (L.length+P.length) (L.length+P.length),(h.kill b).alloc (ba L++ba P),?_,fin (h.kill b) hN,?_,.inr rfl⟩
   ·unfold aD
    simp only [lenA,hf]
    rw [if_neg (by rw [hcond];decide),if_neg (by omega)]
    simp only [hfo]
    rw [if_neg (by omega),if_pos (by rw [g1];simp;omega)]
   ·refine ⟨rfl,by simp,fun q hq hb => ?_⟩
    rw [ab.cA,ab.gA,if_neg (by omega)]
    unfold ab.kill
    rw [h.cM (by omega) (h.aP g1),if_neg (show ¬q=b from hb)]
end Go.Proofs.YtdnahgfgoajmcaaDoor

namespace Go.Proofs.YtdnahgfgoajmcaaDoor
open Go Go.Abs
attribute [local congr] aq
theorem u8_eqn (n k:Nat):((n:Int)==k)=decide (n=k):=by
 by_cases h:n=k
 ·subst h;simp
 ·rw [decide_eq_false h,beq_eq_false_iff_ne]
  omega
theorem hole_nil {v:Value} (h:nilOk v):isHole v=false:=by rcases h with rfl|⟨a,n,c,rfl,_⟩<;>rfl
theorem eqI (a b:Int):bin Tryd.prog .eql 3 (.int .i64 a) (.int .i64 b)=some (.bool (decide (a=b))):=by rw [bq];rfl
end Go.Proofs.YtdnahgfgoajmcaaDoor

namespace Go.Proofs.YtdnahgfgoajmcaaDoor
open Go Go.Abs
attribute [local congr] aq
theorem RSl.rd {h:ab} {v:Value} {L:List ao} (x:RSl h v L) {j:Nat} (hj:j<L.length) : ∃ b o,df 39 v (ak j)=some (ptr b o)∧L[j].Wf ∧ ∀ g:ab,Old h g→cT 39 (ptr b o) g=some (dB L[j],g):=by
 obtain ⟨b,o,ix,wr,_,lp⟩:=x.at hj
 have e:L.getD j ao.z=L[j]:=by rw [List.getD_eq_getElem?_getD,List.getElem?_eq_getElem hj];rfl
 rw [e] at wr lp
 exact ⟨b,o,ix,wr,lp⟩
theorem any_take {α:Type} {L:List α} {i:Nat} (hi:i<L.length) (p:α→Bool):(L.take (i+1)).any p=((L.take i).any p||p L[i]):=by
 rw [List.take_succ_eq_append_getElem hi,List.any_append]
 simp
theorem bt:(aR (.bool true)==some true)=true:=rfl
theorem bt':(aR (.bool true)==some false)=false:=rfl
theorem bf:(aR (.bool false)==some false)=true:=rfl
theorem bf':(aR (.bool false)==some true)=false:=rfl
theorem bu:(aR undef==some false)=false:=rfl
theorem bu':(aR undef==some true)=false:=rfl
theorem eq56 (n:Nat):bin Tryd.prog .eql 56 (.int .u8 (n:Int)) (.int .u8 3)=some (.bool (decide (n=3))):=by rw [bq,u8_eq3]
theorem chkJ (r:Out) (v:Value):bN false r v=true:=rfl
end Go.Proofs.YtdnahgfgoajmcaaDoor

namespace Go.Proofs.YtdnahgfgoajmcaaDoor
open Go Go.Abs
attribute [local congr] aq
structure GLst (z:Nat) (h:ab) (N:Nat) (v:Value) (n:Nat) (cs:List Value):Prop where
 len:cs.length=n*z
 hol:Abs.bJ cs=true
 one:aJ cs=true
 form:(n=0∧v = .slice none 0 0) ∨ ∃ b s,v = .slice (some ⟨b,0,s⟩) n n∧h.get b=some cs∧N≤b∧((n=0∧s=none)∨(0<n∧s=some z))
theorem GLst.nil (z:Nat) (h:ab) (N:Nat):GLst z h N (.slice none 0 0) 0 []:=⟨by simp,rfl,rfl,.inl ⟨rfl,rfl⟩⟩
theorem GLst.bS {z:Nat} {h h':ab} {N:Nat} {v:Value} {n:Nat} {cs:List Value} (x:GLst z h N v n cs) (o:Old h h'):GLst z h' N v n cs:=by
 refine ⟨x.len,x.hol,x.one,?_⟩
 rcases x.form with f|⟨b,s,e,g,f⟩
 ·exact .inl f
 ·exact .inr ⟨b,s,e,Old.get o g,f⟩
theorem eql56 (n k:Nat) (m:Int) (e:m=k):bin Tryd.prog .eql 56 (.int .u8 (n:Int)) (.int .u8 m)=some (.bool (decide (n=k))):=by subst e;rw [bq,u8_eqn]
end Go.Proofs.YtdnahgfgoajmcaaDoor

namespace Go.Proofs.YtdnahgfgoajmcaaDoor
open Go Go.Abs
attribute [local congr] aq
theorem res_two {rs:List ResultVar} {n j k:Nat} (hr:rs = [.tmp j,.tmp k]) (hj:j<n) (hk:k<n) (x:Nat→Value) (h:ab):aj Tryd.prog rs (aO n x) h=some (.tuple #[x j,x k],h):=by
 subst hr
 simp only [aj,List.mapM_cons,List.mapM_nil,fh,getD_mkF hj,getD_mkF hk]
 rfl
end Go.Proofs.YtdnahgfgoajmcaaDoor

namespace Go.Proofs.YtdnahgfgoajmcaaDoor
open Go Go.Abs
attribute [local congr] aq
end Go.Proofs.YtdnahgfgoajmcaaDoor

namespace Go.Proofs.YtdnahgfgoajmcaaDoor
open Go Go.Abs
attribute [local congr] aq
end Go.Proofs.YtdnahgfgoajmcaaDoor

namespace Go.Proofs.YtdnahgfgoajmcaaDoor
open Go Go.Abs
attribute [local congr] aq
theorem nqD35 {a b:List Nat} (wa:gz a) (wb:gz b):bin Tryd.prog .neq 35 (.agg (aV a).toArray) (.agg (aV b).toArray)=some (.bool (!(decide (a=b)))):=by
 obtain ⟨r,hr,hrun⟩:=dig_run (d:=9998) (cF wa) (cF wb)
 have hr':r=decide (a=b):=by
  by_cases e:a=b
  ·rw [decide_eq_true e,hr.2 (by rw [e])]
  ·rw [decide_eq_false e]
   cases r with
   |false=>rfl
   |true=>exact absurd (u8s_inj (hr.1 rfl)) e
 rw [←hr']
 exact (bin_agg (by kernel_rfl) (dg (cF wa).all.2.2) (dg (cF wb).all.2.2) hrun).2
end Go.Proofs.YtdnahgfgoajmcaaDoor

namespace Go.Proofs.YtdnahgfgoajmcaaDoor
open Go Go.Abs
attribute [local congr] aq
end Go.Proofs.YtdnahgfgoajmcaaDoor

