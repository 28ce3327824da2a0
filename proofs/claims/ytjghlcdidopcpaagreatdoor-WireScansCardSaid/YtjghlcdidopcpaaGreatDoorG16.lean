/-
  A part of the proof, spaces and names shortened by a program (a claim may hold 1,500,000 bytes).
  Conditions: as each theorem states.
-/
import Derived.Test.YtjghlcdidopcpaaGreatDoorG15
namespace Go.Proofs.YtjghlcdidopcpaaGreatDoor
open Go Go.Abs
theorem be_zeros : ∀ n:Nat,be (List.replicate n 0)=0
 | 0=>rfl
 |n+1=>by rw [List.replicate_succ,be_cons,be_zeros n,Nat.zero_mul]
def cS (s:Rd) (c:Cu):Prop:=(s.e=0∧c.bad=false∧s.l=c.l)∨(s.e≠0∧c.bad=true)
theorem sim_take {s:Rd} {c:Cu} (h:cS s c) (n:Nat):cS (s.take n).2 (c.take n).2∧be (s.take n).1=be (c.take n).1∧((c.take n).2.bad=false→(s.take n).1=(c.take n).1):=by
 rcases h with ⟨e,b,l⟩|⟨e,b⟩
 ·by_cases hn:n≤s.l.length
  ·have hc:c.take n=(c.l.take n,⟨c.l.drop n,false⟩):=by unfold Cu.take;rw [if_neg (by rw [b,←l];simp;omega)]
   rw [Rd.ef e hn,hc,l]
   exact ⟨.inl ⟨rfl,rfl,rfl⟩,rfl,fun _=>rfl⟩
  ·have hc:c.take n=(List.replicate n 0,⟨[],true⟩):=by unfold Cu.take;rw [if_pos (.inr (by rw [←l];omega))]
   rw [Rd.eO e (by omega),hc]
   exact ⟨.inr ⟨(show (4:Int)≠0 by decide),rfl⟩,(be_zeros n).symm,fun h=>by cases h⟩
 ·have hc:c.take n=(List.replicate n 0,⟨[],true⟩):=by unfold Cu.take;rw [if_pos (.inl b)]
  rw [Rd.take_err e,hc]
  exact ⟨.inr ⟨e,rfl⟩,(be_zeros n).symm,fun h=>by cases h⟩
theorem ek {s:Rd} {c:Cu} (h:cS s c) (n:Nat):cS (s.num n).2 (c.num n).2∧(s.num n).1=(c.num n).1:=⟨(sim_take h n).1,(sim_take h n).2.1⟩
theorem take_bad {c:Cu} (h:c.bad=true) (n:Nat):c.take n=(List.replicate n 0,⟨[],true⟩):=by unfold Cu.take;rw [if_pos (.inl h)]
theorem num_bad {c:Cu} (h:c.bad=true) (n:Nat):(c.num n).2.bad=true:=by unfold Cu.num;rw [take_bad h]
theorem word_bad {c:Cu} (h:c.bad=true):c.word.2.bad=true:=by unfold Cu.word;rw [take_bad (num_bad h 2)]
theorem sim_bad {s:Rd} {c:Cu} (h:cS s c) (hb:c.bad=true):s.e≠0:=by
 rcases h with ⟨_,b,_⟩|⟨e,_⟩
 ·rw [hb] at b;cases b
 ·exact e
theorem sim_ok {s:Rd} {c:Cu} (h:cS s c) (hb:c.bad=false):s=⟨c.l,0⟩:=by
 rcases h with ⟨e,_,l⟩|⟨_,b⟩
 ·exact Rd.ext l e
 ·rw [hb] at b;cases b
theorem sim_word {s:Rd} {c:Cu} (h:cS s c):cS s.text.2 c.word.2∧(c.word.2.bad=false→s.text.1=c.word.1):=by
 have h1:=ek h 2
 have h2:=sim_take h1.1 (c.num 2).1
 unfold Cu.word Rd.text
 rw [h1.2]
 by_cases e:s.e=0
 ·rw [if_pos e]
  by_cases e2:((s.num 2).2.take (c.num 2).1).2.e=0
  ·rw [if_pos e2]
   exact ⟨h2.1,h2.2.2⟩
  ·rw [if_neg e2]
   have hb:((c.num 2).2.take (c.num 2).1).2.bad=true:=by
    rcases h2.1 with ⟨x,_⟩|⟨_,b⟩
    ·exact absurd x e2
    ·exact b
   exact ⟨.inr ⟨e2,hb⟩,fun x=>by rw [hb] at x;cases x⟩
 ·rw [if_neg e]
  have hb:c.bad=true:=by
   rcases h with ⟨x,_⟩|⟨_,b⟩
   ·exact absurd x e
   ·exact b
  have hb2:((c.num 2).2.take (c.num 2).1).2.bad=true:=by rw [take_bad (num_bad hb 2)]
  exact ⟨.inr ⟨e,hb2⟩,fun x=>by rw [hb2] at x;cases x⟩
theorem sim_dig {s:Rd} {c:Cu} (h:cS s c):cS (s.take 32).2 (c.take 32).2∧eH (s.take 32).1=(c.take 32).1:=by
 refine ⟨(sim_take h 32).1,?_⟩
 rcases h with ⟨e,b,l⟩|⟨e,b⟩
 ·by_cases hn:32≤s.l.length
  ·have hc:c.take 32=(c.l.take 32,⟨c.l.drop 32,false⟩):=by unfold Cu.take;rw [if_neg (by rw [b,←l];simp;omega)]
   rw [Rd.ef e hn,hc,l]
   exact pad_full (by rw [List.length_take,←l];omega)
  ·have hc:c.take 32=(List.replicate 32 0,⟨[],true⟩):=by unfold Cu.take;rw [if_pos (.inr (by rw [←l];omega))]
   rw [Rd.eO e (by omega),hc]
   rfl
 ·rw [Rd.take_err e,take_bad b]
  rfl
theorem sim_tab : ∀ (n:Nat) {s:Rd} {c:Cu},cS s c→cS (pTab n s).2 (cTab n c).2∧(pTab n s).1=(cTab n c).1
 | 0,_,_,h=>⟨h,rfl⟩
 |n+1,s,c,h=>by
  have h1:=ek h 8
  have h2:=ek h1.1 1
  have ih:=sim_tab n h2.1
  rw [pTab,cTab]
  refine ⟨ih.1,?_⟩
  show _::_=_::_
  rw [h1.2,h2.2,ih.2]
theorem pRecs_err : ∀ (n:Nat) (s:Rd),s.e≠0→fm n s=none ∨ ∃ q,fm n s=some q∧q.2.e≠0
 | 0,s,h => .inr ⟨_,rfl,h⟩
 |n+1,s,h=>by
  rw [fm,Rd.take_err h]
  by_cases c:(dA ([],s).1).2=0
  ·rw [if_pos c]
   rcases pRecs_err n s h with e|⟨q,e,f⟩
   ·exact .inl (by show Option.map _ (fm n s)=none;rw [e];rfl)
   ·exact .inr ⟨((dA ([],s).1).1::q.1,q.2),by show Option.map _ (fm n s)=some _;rw [e];rfl,f⟩
  ·rw [if_neg c]
   exact .inl rfl
theorem cRecs_bad {c:Cu} (h:c.bad=true) : ∀ n,(dC n c).2=c
 | 0=>rfl
 |n+1=>by rw [dC,if_pos h]
def Res {α:Type} (o:Option (α×Rd)) (p:α×Cu):Prop:=(p.2.bad=false∧o=some (p.1,⟨p.2.l,0⟩))∨(p.2.bad=true∧(o=none ∨ ∃ q,o=some q∧q.2.e≠0))
theorem res_recs : ∀ (n:Nat) {s:Rd} {c:Cu},cS s c→Res (fm n s) (dC n c)
 | 0,s,c,h=>by
   cases hb:c.bad with
   |false=>exact .inl ⟨hb,by rw [sim_ok h hb];rfl⟩
   |true=>exact .inr ⟨hb,.inr ⟨_,rfl,sim_bad h hb⟩⟩
 |n+1,s,c,h=>by
  cases hb:c.bad with
  |true=>exact .inr ⟨by rw [cRecs_bad hb];exact hb,pRecs_err _ _ (sim_bad h hb)⟩
  |false=>
   have h1:=sim_take h 53
   rw [fm,dC,hb]
   rw [if_neg (show ¬false=true by decide)]
   cases hb2:(c.take 53).2.bad with
   |true=>
    have hr:(rcut (c.take 53).2 (dA (c.take 53).1).2).bad=true:=by
     unfold rcut
     split
     ·exact hb2
     ·rfl
    refine .inr ⟨by show (dC n _).2.bad=true;rw [cRecs_bad hr];exact hr,?_⟩
    by_cases cc:(dA (s.take 53).1).2=0
    ·rw [if_pos cc]
     rcases pRecs_err n _ (sim_bad h1.1 hb2) with e|⟨q,e,f⟩
     ·exact .inl (by rw [e];rfl)
     ·exact .inr ⟨((dA (s.take 53).1).1::q.1,q.2),by rw [e];rfl,f⟩
    ·rw [if_neg cc]
     exact .inl rfl
   |false=>
    rw [h1.2.2 hb2]
    by_cases cc:(dA (c.take 53).1).2=0
    ·rw [if_pos cc,cc]
     have hr:rcut (c.take 53).2 0=(c.take 53).2:=rfl
     rw [hr]
     rcases res_recs n h1.1 with ⟨b,e⟩|⟨b,e|⟨q,e,f⟩⟩
     ·exact .inl ⟨b,by rw [e];rfl⟩
     ·exact .inr ⟨b,.inl (by rw [e];rfl)⟩
     ·exact .inr ⟨b,.inr ⟨((dA (c.take 53).1).1::q.1,q.2),by rw [e];rfl,f⟩⟩
    ·rw [if_neg cc]
     have hr:(rcut (c.take 53).2 (dA (c.take 53).1).2).bad=true:=by
      unfold rcut
      rw [if_neg cc]
     exact .inr ⟨by show (dC n _).2.bad=true;rw [cRecs_bad hr];exact hr,.inl rfl⟩
theorem res_sim {α:Type} {m m':α} {s:Rd} {c:Cu} (h:cS s c) (e:c.bad=false→m=m'):Res (some (m,s)) (m',c):=by
 cases hb:c.bad with
 |false=>exact .inl ⟨hb,by rw [sim_ok h hb,e hb]⟩
 |true=>exact .inr ⟨hb,.inr ⟨_,rfl,sim_bad h hb⟩⟩
theorem res_ping {s:Rd} {c:Cu} {m:aO} (h:cS s c) (hk : ¬m.kind=3):Res (some (pPing s m)) (rTable m c):=by
 have h1:=ek h 8
 have h2:=ek h1.1 1
 have h3:=ek h2.1 1
 have h4:=sim_tab ((((c.num 8).2.num 1).2).num 1).1 h3.1
 unfold pPing rTable dR rTab2 rTab1
 rw [if_neg (show ¬({ m with seq:=(c.num 8).1 }:aO).kind=3 from hk),h3.2]
 exact res_sim h4.1 (fun _=>by rw [h1.2,h2.2,h4.2])
theorem res_req {s:Rd} {c:Cu} {m:aO} (h:cS s c) (hk:m.kind=3):Res (some (pReq s m)) (rTable m c):=by
 have h1:=ek h 8
 have h2:=ek h1.1 1
 have h3:=ek h2.1 1
 have h4:=sim_tab ((((c.num 8).2.num 1).2).num 1).1 h3.1
 unfold pReq rTable dR rTab2 rTab1
 rw [if_pos (show ({ m with seq:=(c.num 8).1 }:aO).kind=3 from hk),h3.2]
 exact res_sim h4.1 (fun _=>by rw [h1.2,h2.2,h4.2])
theorem ez {a b:Bool} (h:a=true→b=true) (e:b=false):a=false:=by
 cases ha:a with
 |false=>rfl
 |true=>rw [h ha] at e;cases e
theorem res_sum {s:Rd} {c:Cu} {m:aO} (h:cS s c) (hk:m.kind=4):Res (some (pSum s m)) (rItems m c):=by
 have h1:=sim_word h
 have h2:=sim_word h1.1
 have h3:=ek h2.1 4
 have h4:=sim_dig h3.1
 unfold pSum rItems rIt4 rIt2
 rw [if_pos hk]
 refine res_sim h4.1 (fun hb => ?_)
 have b3:(c.word.2.word.2.num 4).2.bad=false:=ez (fun e=>by rw [take_bad e]) hb
 have b2:c.word.2.word.2.bad=false:=ez (fun e=>num_bad e 4) b3
 have b1:c.word.2.bad=false:=ez (fun e=>word_bad e) b2
 rw [h1.2 b1,h2.2 b2,h3.2,h4.2]
theorem res_items {s:Rd} {c:Cu} {m:aO} (h:cS s c) (hk : ¬m.kind=4):Res (pItems s m) (rItems m c):=by
 have h1:=sim_word h
 have h2:=sim_word h1.1
 have h3:=ek h2.1 1
 unfold rItems rIt5 rIt2
 rw [if_neg hk]
 unfold pItems
 rw [h3.2]
 by_cases hw:(c.word.2.word.2.num 1).1≤1
 ·have hwc:wcut (c.word.2.word.2.num 1).2 (c.word.2.word.2.num 1).1=(c.word.2.word.2.num 1).2:=by unfold wcut;rw [if_neg (by omega)]
  rw [hwc]
  have h4:=ek h3.1 2
  rw [h4.2]
  rcases res_recs ((c.word.2.word.2.num 1).2.num 2).1 h4.1 with ⟨b,e⟩|⟨b,e|⟨q,e,f⟩⟩
  ·rw [e]
   have b4:((c.word.2.word.2.num 1).2.num 2).2.bad=false:=ez (fun e=>by rw [cRecs_bad e];exact e) b
   have b3:(c.word.2.word.2.num 1).2.bad=false:=ez (fun e=>num_bad e 2) b4
   have b2:c.word.2.word.2.bad=false:=ez (fun e=>num_bad e 1) b3
   have b1:c.word.2.bad=false:=ez (fun e=>word_bad e) b2
   refine .inl ⟨b,?_⟩
   simp only [if_pos hw]
   rw [h1.2 b1,h2.2 b2]
  ·rw [e]
   exact .inr ⟨b,.inl rfl⟩
  ·rw [e]
   refine .inr ⟨b,.inr ?_⟩
   simp only [if_pos hw]
   exact ⟨_,rfl,f⟩
 ·have hwc:wcut (c.word.2.word.2.num 1).2 (c.word.2.word.2.num 1).1=⟨(c.word.2.word.2.num 1).2.l,true⟩:=by unfold wcut;rw [if_pos (by omega)]
  rw [hwc]
  have hb:=num_bad (c:=⟨(c.word.2.word.2.num 1).2.l,true⟩) rfl 2
  refine .inr ⟨by show (dC _ _).2.bad=true;rw [cRecs_bad hb];exact hb,.inl ?_⟩
  cases fm (((s.text.2.text.2.num 1).2).num 2).1 (((s.text.2.text.2.num 1).2).num 2).2 with
  |none=>rfl
  |some q=>simp only [if_neg hw]
theorem res_obj {s:Rd} {c:Cu} {m:aO} (h:cS s c) (h8:(m.kind==8||m.kind==10)=false) (h11 : ¬m.kind=11):Res (some (pObj s m)) (fj m c):=by
 have h1:=sim_dig h
 have e:fj m c=(rOb1 m c,(c.take 32).2):=by
  unfold fj rOb2
  rw [if_neg (show ¬((rOb1 m c).kind==8||(rOb1 m c).kind==10)=true by show ¬(m.kind==8||m.kind==10)=true;rw [h8];decide)]
  unfold rOb3
  rw [if_neg (show ¬(rOb1 m c).kind=11 from h11)]
 rw [e]
 exact res_sim h1.1 (fun _=>by unfold rOb1;rw [h1.2])
theorem res_stored {s:Rd} {c:Cu} {m:aO} (h:cS s c) (h11:m.kind=11):Res (some (pStored s m)) (fj m c):=by
 have h1:=sim_dig h
 have h2:=ek h1.1 2
 have e:fj m c=rCode (rOb1 m c) (c.take 32).2:=by
  unfold fj rOb2
  rw [if_neg (show ¬((rOb1 m c).kind==8||(rOb1 m c).kind==10)=true by show ¬(m.kind==8||m.kind==10)=true;rw [h11];decide)]
  unfold rOb3
  rw [if_pos (show (rOb1 m c).kind=11 from h11)]
 rw [e]
 exact res_sim h2.1 (fun _=>by unfold rOb1;rw [h1.2,h2.2])
theorem res_piece {s:Rd} {c:Cu} {m:aO} (h:cS s c) (h8:(m.kind==8||m.kind==10)=true):Res (pPiece s m) (fj m c):=by
 have h1:=sim_dig h
 have h2:=sim_word h1.1
 have h11 : ¬m.kind=11:=fun e=>by rw [e] at h8;exact absurd h8 (by decide)
 have e:fj m c=rPc (rOb1 m c) (c.take 32).2:=by
  unfold fj rOb2
  rw [if_pos (show ((rOb1 m c).kind==8||(rOb1 m c).kind==10)=true from h8)]
  unfold rOb3
  rw [if_neg (show ¬(rPc (rOb1 m c) (c.take 32).2).1.kind=11 from h11)]
 rw [e]
 unfold pPiece rPc
 cases hb:(c.take 32).2.word.2.bad with
 |false=>
  rw [h2.2 hb]
  by_cases cc:(cM (c.take 32).2.word.1).2=0
  ·rw [if_pos cc,cc]
   have hr:rcut (c.take 32).2.word.2 0=(c.take 32).2.word.2:=rfl
   rw [hr]
   have h3:=ek h2.1 2
   have h4:=sim_word h3.1
   unfold rPc2
   refine res_sim h4.1 (fun hb4 => ?_)
   unfold mOb rOb1
   rw [h1.2,h3.2,h4.2 hb4]
  ·rw [if_neg cc]
   have hr:(rcut (c.take 32).2.word.2 (cM (c.take 32).2.word.1).2).bad=true:=by unfold rcut;rw [if_neg cc]
   exact .inr ⟨word_bad (num_bad hr 2),.inl rfl⟩
 |true=>
  have hr:(rcut (c.take 32).2.word.2 (cM (c.take 32).2.word.1).2).bad=true:=by
   unfold rcut
   split
   ·exact hb
   ·rfl
  refine .inr ⟨word_bad (num_bad hr 2),?_⟩
  by_cases cc:(cM (s.take 32).2.text.1).2=0
  ·rw [if_pos cc]
   have h3:=ek h2.1 2
   have h4:=sim_word h3.1
   exact .inr ⟨_,rfl,sim_bad h4.1 (word_bad (num_bad hb 2))⟩
  ·rw [if_neg cc]
   exact .inl rfl
def refB (m:aO) (c:Cu):aO×Cu:=if m.kind≤3 then rTable m c else if m.kind≤5 then rItems m c else fj m c
theorem res_body {k f t:Nat} (hk:kindOk k=true) {s:Rd} {c:Cu} (h:cS s c):Res (rBody k s (aO.hd k f t)) (refB (aO.hd k f t) c):=by
 unfold refB
 rcases kinds hk with rfl|rfl|rfl|rfl|rfl|rfl|rfl|rfl|rfl|rfl|rfl|rfl|rfl
 ·exact res_ping h (show ¬(1:Nat)=3 by decide)
 ·exact res_ping h (show ¬(2:Nat)=3 by decide)
 ·exact res_req h rfl
 ·exact res_sum h rfl
 ·exact res_items h (show ¬(5:Nat)=4 by decide)
 ·exact res_obj h rfl (show ¬(6:Nat)=11 by decide)
 ·exact res_obj h rfl (show ¬(7:Nat)=11 by decide)
 ·exact res_piece h rfl
 ·exact res_obj h rfl (show ¬(9:Nat)=11 by decide)
 ·exact res_piece h rfl
 ·exact res_stored h rfl
 ·exact res_obj h rfl (show ¬(12:Nat)=11 by decide)
 ·exact res_obj h rfl (show ¬(13:Nat)=11 by decide)
def ofF (l:List Nat):aO×Int:=
 if (cH l).2≠0 then (aO.z,(cH l).2) else
 if l.length<(cH l).1 then (aO.z,4) else
 if (cH l).1<l.length then (aO.z,3) else
 if be ((l.drop (l.length-4)).take 4)≠crcN (l.take (l.length-4)) then (aO.z,20) else
 if kindOk (l.getD 3 0)=false then (aO.z,2) else
 if (refB (aO.hd (l.getD 3 0) (l.getD 4 0) (l.getD 5 0)) ⟨(l.drop 10).take (l.length-4-10),false⟩).2.bad=true∨(refB (aO.hd (l.getD 3 0) (l.getD 4 0) (l.getD 5 0)) ⟨(l.drop 10).take (l.length-4-10),false⟩).2.l ≠ [] then (aO.z,5) else
 if ft (refB (aO.hd (l.getD 3 0) (l.getD 4 0) (l.getD 5 0)) ⟨(l.drop 10).take (l.length-4-10),false⟩).1=true then ((refB (aO.hd (l.getD 3 0) (l.getD 4 0) (l.getD 5 0)) ⟨(l.drop 10).take (l.length-4-10),false⟩).1,0) else (aO.z,2)
theorem ofF_eq (l:List Nat):ofF l=decF l:=by
 unfold ofF decF
 by_cases c1:(cH l).2≠0
 ·rw [if_pos c1,if_pos c1]
 rw [if_neg c1,if_neg c1]
 by_cases c2:l.length<(cH l).1
 ·rw [if_pos c2,if_pos c2]
 rw [if_neg c2,if_neg c2]
 by_cases c3:(cH l).1<l.length
 ·rw [if_pos c3,if_pos c3]
 rw [if_neg c3,if_neg c3]
 by_cases c4:be ((l.drop (l.length-4)).take 4)≠crcN (l.take (l.length-4))
 ·rw [if_pos c4,if_pos c4]
 rw [if_neg c4,if_neg c4]
 by_cases c5:kindOk (l.getD 3 0)=false
 ·rw [if_pos c5,if_pos c5]
 rw [if_neg c5,if_neg c5]
 have hk:kindOk (l.getD 3 0)=true:=by simpa using c5
 generalize hm:aO.hd (l.getD 3 0) (l.getD 4 0) (l.getD 5 0)=m
 have R:=res_body (f:=l.getD 4 0) (t:=l.getD 5 0) hk (s:=⟨(l.drop 10).take (l.length-4-10),0⟩) (c:=⟨(l.drop 10).take (l.length-4-10),false⟩) (.inl ⟨rfl,rfl,rfl⟩)
 rw [hm] at R
 generalize refB m ⟨(l.drop 10).take (l.length-4-10),false⟩=p at R ⊢
 rcases R with ⟨b,e⟩|⟨b,e|⟨q,e,f⟩⟩
 ·rw [e]
  simp only
  by_cases hl:p.2.l = []
  ·have hf:(⟨p.2.l,0⟩:Rd).fin=0:=by unfold Rd.fin;rw [if_pos rfl,if_pos hl]
   rw [hf,if_neg (show ¬(0:Int)≠0 by decide),if_neg (by rw [b,hl];simp)]
  ·have hf:(⟨p.2.l,0⟩:Rd).fin=5:=by unfold Rd.fin;rw [if_pos rfl,if_neg hl]
   rw [hf,if_pos (show (5:Int)≠0 by decide),if_pos (.inr hl)]
 ·rw [e,if_pos (.inl b)]
 ·rw [e,if_pos (.inl b)]
  simp only
  have hf:q.2.fin≠0:=by unfold Rd.fin;rw [if_neg f];exact f
  rw [if_pos hf]
end Go.Proofs.YtjghlcdidopcpaaGreatDoor

namespace Go.Proofs.YtjghlcdidopcpaaGreatDoor
open Go Go.Abs
attribute [local congr] aU
def Ret14 (h:aj) (o:Out) (r:aO×Int):Prop := ∃ sl h',o=some (.tuple #[mv r.1 sl,.int .i64 r.2],h')∧Has h' sl r.1∧Old h h'∧sl.off (fun b=>b<h.next)
theorem results14:Tryz.f14.results.toList = [.cell 2 37,.tmp 3]:=by kernel_rfl
set_option maxRecDepth 100000 in
theorem bz14:bU Zl []=some (mv aO.z aZ):=rfl
structure E14 (h g:aj) (a:Option Addr) (n c:Nat) (l:List Nat) (y:Nat→Value):Prop where
 hG:4≤h.n0
 hz:GZ h
 hl:ay a n h=some l
 hg:10≤n→cn a n c=true
 hn:n≤1000000
 o1:Old h g
 g1:g.get h.next=some Zl
 y0:y 0 = .slice a n c
 y2:y 2=ptr h.next 0
section
variable {h g:aj} {a:Option Addr} {n c:Nat} {l:List Nat} {y:Nat→Value}
theorem E14.go (E:E14 h g a n c l y) {y':Nat→Value} (e0:y' 0=y 0) (e2:y' 2=y 2):E14 h g a n c l y':=⟨E.hG,E.hz,E.hl,E.hg,E.hn,E.o1,E.g1,e0.trans E.y0,e2.trans E.y2⟩
theorem E14.more (E:E14 h g a n c l y) {y':Nat→Value} {h2:aj} {B:Nat→Prop} (o:Kept g h2 B) (hB : ∀ b,B b→h.next<b) (e0:y' 0=y 0) (e2:y' 2=y 2):E14 h h2 a n c l y':=⟨E.hG,E.hz,E.hl,E.hg,E.hn,E.o1.cE o (fun d hd e=>by have:=hB _ e;omega),o.dj E.g1 (fun e=>by have:=hB _ e;omega),e0.trans E.y0,e2.trans E.y2⟩
theorem fin14 (y:Nat→Value) (w:dB) (e:Int) {b:Nat} (g':aj) (y2:y 2=ptr b 0) (y3:y 3 = .int .i64 e) (ld:bD 116 (ptr b 0) g'=some (.agg w.toArray,g')):ar Tryz.prog Tryz.f14.results.toList (aJ 106 y) g'=some (.tuple #[.agg w.toArray,.int .i64 e],g'):=by
 rw [←y2] at ld
 rw [←y3]
 exact bp results14 fq fp (show 2<106 by decide) (show 3<106 by decide) y ld
theorem E14.zero (E:E14 h g a n c l y) : ∃ h',bw 116 (ptr h.next 0) (mv aO.z aZ) g=some (undef,h')∧bD 116 (ptr h.next 0) h'=some (mv aO.z aZ,h')∧Old h h'∧Has h' aZ aO.z:=
 msg_end E.o1 (Nat.le_refl _) E.g1 rfl (z_has _) (cT _)
theorem E14.len (E:E14 h g a n c l y):l.length=n:=(aw E.hl).1
theorem E14.bys (E:E14 h g a n c l y):Bys l:=(aw E.hl).2.1
theorem E14.byte (E:E14 h g a n c l y) (i:Nat) (hi:i<l.length) : ∃ pt,bB 1 (.slice a n c) (aH i)=some pt∧aN pt g=some (.int .u8 ((l.getD i 0:Nat):Int),g)∧l.getD i 0<256∧fc .i64 (.int .u8 ((l.getD i 0:Nat):Int)) g=some (.int .i64 ((l.getD i 0:Nat):Int),g):=by
 obtain ⟨pt,i1,i2⟩:=byte_rd (c:=c) (i:=i) E.hl (by rw [←E.len];exact hi)
 have hb:l.getD i 0<256:=by
  rw [List.getD_eq_getElem?_getD,List.getElem?_eq_getElem hi]
  exact (aw E.hl).2.1 _ (List.getElem_mem _)
 exact ⟨pt,i1,i2 g E.o1,hb,by rw [bq,wrap_i64 (by omega) (by omega)]⟩
theorem s14_1 (E:E14 h g a n c l y) : ∃ y',k14s1 CW (aJ 106 y) g=k14s2 CW (aJ 106 y') g∧E14 h g a n c l y'∧y' 4 = .int .i64 ((cH l).1:Nat)∧y' 5 = .int .i64 (cH l).2:=by
 have e1:=r37 (h:=g) (by rw [E.o1.n0];exact E.hG) (c:=c) (Old.bytes E.o1 E.hl) E.hg E.hn
 rw [t14s1_eq]
 unfold t14s1
 simp -implicitDefEqProofs only [E.y0, e1, af, ak, a8, a7]
 exact ⟨_,rfl,E.go rfl rfl,rfl,rfl⟩
theorem x14_2 (E:E14 h g a n c l y) (c1:(cH l).2≠0) (y5:y 5 = .int .i64 (cH l).2):Ret14 h (k14s2 CW (aJ 106 y) g) (aO.z,(cH l).2):=by
 have q1:bin Tryz.prog .neq 35 (.int .i64 (cH l).2) (.int .i64 0)=some (.bool true):=by rw [ax];simpa using c1
 obtain ⟨hz1,e1,ld1z,O1,Hz⟩:=E.zero
 refine ⟨aZ,hz1,?_,Hz,O1,cT _⟩
 rw [t14s2_eq]
 unfold t14s2
 simp -implicitDefEqProofs only [E.y2, y5, q1, bz14, e1, af, ak]
 exact fin14 _ _ _ _ E.y2 rfl ld1z
theorem s14_2 (E:E14 h g a n c l y) (c1:(cH l).2=0) (y5:y 5 = .int .i64 (cH l).2) : ∃ y',k14s2 CW (aJ 106 y) g=k14s3 CW (aJ 106 y') g∧E14 h g a n c l y'∧y' 4=y 4:=by
 have q1:bin Tryz.prog .neq 35 (.int .i64 (cH l).2) (.int .i64 0)=some (.bool false):=by rw [ax];simpa using c1
 rw [t14s2_eq]
 unfold t14s2
 simp -implicitDefEqProofs only [y5, q1, af, ak]
 exact ⟨_,rfl,E.go rfl rfl,rfl⟩
theorem s14_3 (E:E14 h g a n c l y) {L:Nat} (c2 : ¬l.length<L) (y4:y 4 = .int .i64 (L:Nat)) : ∃ y',k14s3 CW (aJ 106 y) g=k14s4 CW (aJ 106 y') g∧E14 h g a n c l y'∧y' 4=y 4:=by
 have hln:bG (.slice a n c)=some (aH n):=rfl
 have q2:bin Tryz.prog .lss 3 (aH n) (.int .i64 (L:Int))=some (.bool false):=by have:=E.len;rw [aC,decide_eq_false (by omega)]
 rw [t14s3_eq]
 unfold t14s3
 simp -implicitDefEqProofs only [E.y0, hln, y4, q2, af, ak]
 exact ⟨_,rfl,E.go rfl rfl,y4▸rfl⟩
theorem s14_4 (E:E14 h g a n c l y) {L:Nat} (c2 : ¬L<l.length) (y4:y 4 = .int .i64 (L:Nat)) : ∃ y',k14s4 CW (aJ 106 y) g=k14s5 CW (aJ 106 y') g∧E14 h g a n c l y'∧y' 4=y 4:=by
 have hln:bG (.slice a n c)=some (aH n):=rfl
 have q2:bin Tryz.prog .gtr 3 (aH n) (.int .i64 (L:Int))=some (.bool false):=by have:=E.len;rw [aB,decide_eq_false (by omega)]
 rw [t14s4_eq]
 unfold t14s4
 simp -implicitDefEqProofs only [E.y0, hln, y4, q2, af, ak]
 exact ⟨_,rfl,E.go rfl rfl,y4▸rfl⟩
theorem x14_3 (E:E14 h g a n c l y) {L:Nat} (c2:l.length<L) (y4:y 4 = .int .i64 (L:Nat)):Ret14 h (k14s3 CW (aJ 106 y) g) (aO.z,4):=by
 have hln:bG (.slice a n c)=some (aH n):=rfl
 have q2:bin Tryz.prog .lss 3 (aH n) (.int .i64 (L:Int))=some (.bool true):=by have:=E.len;rw [aC,decide_eq_true (by omega)]
 obtain ⟨hz1,e1,ld1z,O1,Hz⟩:=E.zero
 refine ⟨aZ,hz1,?_,Hz,O1,cT _⟩
 rw [t14s3_eq]
 unfold t14s3
 simp -implicitDefEqProofs only [E.y0, E.y2, hln, y4, q2, bz14, e1, af, ak]
 exact fin14 _ _ _ _ E.y2 rfl ld1z
theorem x14_4 (E:E14 h g a n c l y) {L:Nat} (c2:L<l.length) (y4:y 4 = .int .i64 (L:Nat)):Ret14 h (k14s4 CW (aJ 106 y) g) (aO.z,3):=by
 have hln:bG (.slice a n c)=some (aH n):=rfl
 have q2:bin Tryz.prog .gtr 3 (aH n) (.int .i64 (L:Int))=some (.bool true):=by have:=E.len;rw [aB,decide_eq_true (by omega)]
 obtain ⟨hz1,e1,ld1z,O1,Hz⟩:=E.zero
 refine ⟨aZ,hz1,?_,Hz,O1,cT _⟩
 rw [t14s4_eq]
 unfold t14s4
 simp -implicitDefEqProofs only [E.y0, E.y2, hln, y4, q2, bz14, e1, af, ak]
 exact fin14 _ _ _ _ E.y2 rfl ld1z
theorem x14_5 (E:E14 h g a n c l y) (h14:14≤n) (c4:be ((l.drop (l.length-4)).take 4)≠crcN (l.take (l.length-4))) (y4:y 4 = .int .i64 (n:Nat)):Ret14 h (k14s5 CW (aJ 106 y) g) (aO.z,20):=by
 have l2:=Old.bytes E.o1 E.hl
 have hG:4≤g.n0:=by rw [E.o1.n0];exact E.hG
 have hlen:=E.len
 have hn:=E.hn
 have q4:bin Tryz.prog .sub 3 (.int .i64 (n:Int)) (.int .i64 4)=some (aH (n-4)):=sub3 (b:=4) (by omega) (by omega)
 obtain ⟨a3,c3',z3,s3,g3⟩:=slR_from (E.hg (by omega)) l2 (Nat.sub_le n 4)
 rw [show n-(n-4)=4 by omega] at z3 s3 g3
 obtain ⟨a5,c5,z5,s5,g5⟩:=slR_to (E.hg (by omega)) l2 (Nat.sub_le n 4)
 have e3:=r38 hG (c:=c3') s3 (by decide)
 have e5:=r39 hG (c:=c5) s5 (by omega)
 have crl:=crcN_lt (l:=l.take (n-4)) (fun x hx=>E.bys x (List.mem_of_mem_take hx))
 have ht:(l.drop (n-4)).take 4=l.drop (n-4):=List.take_of_length_le (by rw [List.length_drop];omega)
 rw [hlen,ht] at c4
 have cv:fc .u64 (u32 (crcN (l.take (n-4)))) g=some (.int .u64 ((crcN (l.take (n-4)):Nat):Int),g):=by
  unfold u32
  rw [bq,wrap_u64 (by omega) (by omega)]
 have q5:bin Tryz.prog .neq 25 (.int .u64 ((be (l.drop (n-4)):Nat):Int)) (.int .u64 ((crcN (l.take (n-4)):Nat):Int))=some (.bool true):=by
  rw [ax]
  have:((be (l.drop (n-4)):Nat):Int)≠((crcN (l.take (n-4)):Nat):Int):=by omega
  simpa using this
 obtain ⟨hz1,e1,ld1z,O1,Hz⟩:=E.zero
 refine ⟨aZ,hz1,?_,Hz,O1,cT _⟩
 rw [t14s5_eq]
 unfold t14s5
 simp -implicitDefEqProofs only [E.y0, E.y2, y4, q4, z3, e3, z5, e5, cv, q5, bz14, e1, af, ak]
 exact fin14 _ _ _ _ E.y2 rfl ld1z
theorem s14_5 (E:E14 h g a n c l y) (h14:14≤n) (c4 : ¬be ((l.drop (l.length-4)).take 4)≠crcN (l.take (l.length-4))) (y4:y 4 = .int .i64 (n:Nat)) : ∃ y',k14s5 CW (aJ 106 y) g=k14s6 CW (aJ 106 y') g∧E14 h g a n c l y'∧y' 4=y 4:=by
 have l2:=Old.bytes E.o1 E.hl
 have hG:4≤g.n0:=by rw [E.o1.n0];exact E.hG
 have hlen:=E.len
 have hn:=E.hn
 have q4:bin Tryz.prog .sub 3 (.int .i64 (n:Int)) (.int .i64 4)=some (aH (n-4)):=sub3 (b:=4) (by omega) (by omega)
 obtain ⟨a3,c3',z3,s3,g3⟩:=slR_from (E.hg (by omega)) l2 (Nat.sub_le n 4)
 rw [show n-(n-4)=4 by omega] at z3 s3 g3
 obtain ⟨a5,c5,z5,s5,g5⟩:=slR_to (E.hg (by omega)) l2 (Nat.sub_le n 4)
 have e3:=r38 hG (c:=c3') s3 (by decide)
 have e5:=r39 hG (c:=c5) s5 (by omega)
 have crl:=crcN_lt (l:=l.take (n-4)) (fun x hx=>E.bys x (List.mem_of_mem_take hx))
 have ht:(l.drop (n-4)).take 4=l.drop (n-4):=List.take_of_length_le (by rw [List.length_drop];omega)
 rw [hlen,ht] at c4
 have cv:fc .u64 (u32 (crcN (l.take (n-4)))) g=some (.int .u64 ((crcN (l.take (n-4)):Nat):Int),g):=by
  unfold u32
  rw [bq,wrap_u64 (by omega) (by omega)]
 have q5:bin Tryz.prog .neq 25 (.int .u64 ((be (l.drop (n-4)):Nat):Int)) (.int .u64 ((crcN (l.take (n-4)):Nat):Int))=some (.bool false):=by
  rw [ax]
  have:((be (l.drop (n-4)):Nat):Int)=((crcN (l.take (n-4)):Nat):Int):=by omega
  simpa using this
 rw [t14s5_eq]
 unfold t14s5
 simp -implicitDefEqProofs only [E.y0, y4, q4, z3, e3, z5, e5, cv, q5, af, ak]
 exact ⟨_,rfl,E.go rfl rfl,y4▸rfl⟩
structure K14 (h g:aj) (a:Option Addr) (n c:Nat) (l:List Nat) (y:Nat→Value) (V:Nat) (m:aO) (sl:cR):Prop where
 E:E14 h g a n c l y
 y6:y 6=ptr V 0
 gV:g.get V=some (m.d.cells sl)
 hm:Has g sl m
 hV:h.next<V
theorem hd_wf {k f t:Nat} (hk:k<256) (hf:f<256) (ht:t<256):(aO.hd k f t).Wf:={ aO.fZ with kind:=hk,from_:=i64_n (n:=f) (by omega),to_:=i64_n (n:=t) (by omega) }
theorem hd_has {k f t:Nat} (hk:k<256) (hf:f<256) (ht:t<256) (h:aj):Has h aZ (aO.hd k f t):=⟨⟨.nil _ _,.nil _ _,.nil _ _,.nil _ _,.nil _ _,.nil _ _⟩,hd_wf hk hf ht⟩
theorem s14_6 (E:E14 h g a n c l y) (h14:14≤n) : ∃ y' g' V,k14s6 CW (aJ 106 y) g=k14s7 CW (aJ 106 y') g'∧K14 h g' a n c l y' V (aO.hd (l.getD 3 0) (l.getD 4 0) (l.getD 5 0)) aZ∧y' 4=y 4:=by
 have hlen:=E.len
 obtain ⟨p3,j3,f3,b3,_⟩:=E.byte 3 (by omega)
 obtain ⟨p4,j4,f4,b4,v4⟩:=E.byte 4 (by omega)
 obtain ⟨p5,j5,f5,b5,v5⟩:=E.byte 5 (by omega)
 have j3:bB 1 (.slice a n c) (.int .i64 3)=some p3:=j3
 have j4:bB 1 (.slice a n c) (.int .i64 4)=some p4:=j4
 have j5:bB 1 (.slice a n c) (.int .i64 5)=some p5:=j5
 have bm:bU Zl [(0,1,.int .u8 ((l.getD 3 0:Nat):Int)),(1,1,.int .i64 ((l.getD 4 0:Nat):Int)),(2,1,.int .i64 ((l.getD 5 0:Nat):Int))]=some (mv (aO.hd (l.getD 3 0) (l.getD 4 0) (l.getD 5 0)) aZ):=bld_head (aO.hd (l.getD 3 0) (l.getD 4 0) (l.getD 5 0))
 obtain ⟨g1,z1,o1,G1,n1⟩:=fresh Zl g
 have Hm:=hd_has (k:=l.getD 3 0) (f:=l.getD 4 0) (t:=l.getD 5 0) b3 b4 b5 g1
 have cc:=cP Hm.sl (aO.ok Hm.wf)
 obtain ⟨g2,e2,k2,G2,_,n2⟩:=bJ (n:=116) G1 (by rw [o1.n0];exact g.aK) rfl cc.2.2 cc.2.1
 have o2:Old g g2:=Old.eF o1 k2 (Nat.le_refl _)
 have hV:=g.bc E.g1
 rw [t14s6_eq]
 unfold t14s6
 generalize aO.hd (l.getD 3 0) (l.getD 4 0) (l.getD 5 0)=m at *
 simp -implicitDefEqProofs only [E.y0, j3, f3, j4, f4, v4, j5, f5, v5, bm, z1, e2, af, ak]
 exact ⟨_,g2,g.next,rfl,⟨E.more o2 (fun _ e=>e.elim) rfl rfl,rfl,G2,Hm.bF k2 (cT _),hV⟩,rfl⟩
variable {V:Nat} {m:aO} {sl:cR}
theorem K14.kind (K:K14 h g a n c l y V m sl):aN (ptr V 0) g=some (.int .u8 (m.kind:Int),g):=aV K.gV rfl rfl
theorem x14_7 (K:K14 h g a n c l y V m sl) (c1:kindOk m.kind=false):Ret14 h (k14s7 CW (aJ 106 y) g) (aO.z,2):=by
 have l0:=K.kind
 have q1:bin Tryz.prog .lss 24 (.int .u8 (m.kind:Int)) (.int .u8 1)=some (.bool (decide ((m.kind:Int)<1))):=aC ..
 have q2:bin Tryz.prog .gtr 24 (.int .u8 (m.kind:Int)) (.int .u8 13)=some (.bool (decide ((m.kind:Int)>13))):=aB ..
 obtain ⟨hz1,e1,ld1z,O1,Hz⟩:=K.E.zero
 refine ⟨aZ,hz1,?_,Hz,O1,cT _⟩
 rw [t14s7_eq]
 unfold t14s7
 have hc:m.kind<1∨13<m.kind:=by
  unfold kindOk at c1
  rw [Bool.and_eq_false_iff] at c1
  rcases c1 with e|e
  ·exact .inl (Nat.lt_of_not_le (fun x=>by rw [Nat.ble_eq_true_of_le x] at e;cases e))
  ·exact .inr (Nat.lt_of_not_le (fun x=>by rw [Nat.ble_eq_true_of_le x] at e;cases e))
 by_cases d:m.kind<1
 ·rw [decide_eq_true (by omega)] at q1
  simp -implicitDefEqProofs only [K.y6, K.E.y2, l0, q1, bz14, e1, af, ak, ao, sf, ah, if_true, al, Nat.zero_add]
  exact fin14 _ _ _ _ K.E.y2 rfl ld1z
 ·rw [decide_eq_false (by omega)] at q1
  rw [decide_eq_true (by omega)] at q2
  simp -implicitDefEqProofs only [K.y6, K.E.y2, l0, q1, q2, bz14, e1, af, ak, ao, beq_self_eq_true, ai, Bool.false_eq_true, if_false, al, Nat.zero_add]
  exact fin14 _ _ _ _ K.E.y2 rfl ld1z
theorem K14.go (K:K14 h g a n c l y V m sl) {y':Nat→Value} (e0:y' 0=y 0) (e2:y' 2=y 2) (e6:y' 6=y 6):K14 h g a n c l y' V m sl:=⟨K.E.go e0 e2,e6.trans K.y6,K.gV,K.hm,K.hV⟩
theorem s14_7 (K:K14 h g a n c l y V m sl) (c1:kindOk m.kind=true) : ∃ y',k14s7 CW (aJ 106 y) g=k14s8 CW (aJ 106 y') g∧K14 h g a n c l y' V m sl∧y' 4=y 4:=by
 have l0:=K.kind
 have hk:=kinds c1
 have q1:bin Tryz.prog .lss 24 (.int .u8 (m.kind:Int)) (.int .u8 1)=some (.bool false):=by rw [aC,decide_eq_false (by omega)]
 have q2:bin Tryz.prog .gtr 24 (.int .u8 (m.kind:Int)) (.int .u8 13)=some (.bool false):=by rw [aB,decide_eq_false (by omega)]
 rw [t14s7_eq]
 unfold t14s7
 simp -implicitDefEqProofs only [K.y6, l0, q1, q2, af, ak, ao, beq_self_eq_true, ai, Bool.false_eq_true, if_false, al, Nat.zero_add]
 exact ⟨_,rfl,K.go rfl rfl rfl,rfl⟩
structure M14 (h g:aj) (a:Option Addr) (n c:Nat) (l:List Nat) (y:Nat→Value) (V W:Nat) (m:aO) (sl:cR) (q:Cu):Prop where
 K:K14 h g a n c l y V m sl
 y7:y 7=ptr W 0
 gW:CutB g h.next W q
 hW:V<W
 so:sl.off (fun b=>b≤W)
theorem s14_8 (K:K14 h g a n c l y V m aZ) (h14:14≤n) (h21:n≤21000) (y4:y 4 = .int .i64 (n:Nat)) : ∃ y' g' W,k14s8 CW (aJ 106 y) g=k14s9 CW (aJ 106 y') g'∧M14 h g' a n c l y' V W m aZ ⟨(l.drop 10).take (l.length-4-10),false⟩:=by
 have hlen:=K.E.len
 have hn:=K.E.hn
 have q4:bin Tryz.prog .sub 3 (.int .i64 (n:Int)) (.int .i64 4)=some (aH (n-4)):=sub3 (b:=4) (by omega) (by omega)
 have l2:=Old.bytes K.E.o1 K.E.hl
 obtain ⟨a',c',z5,s5,g5,f5⟩:=slR_bytes (vl:=some (.int .i64 10)) (vh:=some (aH (n-4))) (lo:=10) (hi:=n-4) (K.E.hg (by omega)) l2 (by omega) (by omega) (by simp only [cB];rw [if_pos (by have:=goodS_le (K.E.hg (by omega));omega)];rfl) (by simp only [cB];rw [if_pos (by omega)];rfl)
 have hl5:((l.drop 10).take (l.length-4-10)).length=n-4-10:=by rw [List.length_take,List.length_drop];omega
 have hlt : ∀ z,a=some z→0<n→z.block<h.next:=fun z hz h0=>by
  obtain ⟨b,off,s,k,e,hk,_⟩:=(aw K.E.hl).2.2 h0
  rw [hz] at e
  cases e
  exact h.bc hk
 obtain ⟨g1,z1,o1,C1,n1⟩:=fT g h.next
 have Vv:ej g1 h.next (.agg (cutC (.slice a' (n-4-10) c') false).toArray) ⟨(l.drop 10).take (l.length-4-10),false⟩:=by
  refine ⟨a',c',?_,?_,?_,?_,?_⟩
  ·show _=Value.agg (cutC (.slice a' ((l.drop 10).take (l.length-4-10)).length c') false).toArray
   rw [hl5]
  ·show ay a' ((l.drop 10).take (l.length-4-10)).length g1=some ((l.drop 10).take (l.length-4-10))
   rw [hl5,hlen]
   exact Old.bytes o1 s5
  ·show cn a' ((l.drop 10).take (l.length-4-10)).length c'=true
   rw [hl5]
   exact g5
  ·show ((l.drop 10).take (l.length-4-10)).length≤21000
   omega
  ·intro y hy _
   obtain ⟨y0,e0,e1⟩:=f5 y hy
   rw [←e1]
   exact hlt y0 e0 (by omega)
 have hVl:=g.bc K.gV
 have hVn:=K.hV
 have n0:g1.n0≤g.next:=by rw [o1.n0];exact g.aK
 obtain ⟨g2,e2,k2,C2,n2⟩:=C1.put Vv n0 (by omega)
 have o2:Old g g2:=Old.eF o1 k2 (Nat.le_refl _)
 have bC:=bldC a' (n-4-10) c' false
 rw [t14s8_eq]
 unfold t14s8
 simp -implicitDefEqProofs only [K.E.y0, y4, q4, z5, bC, z1, e2, af, ak]
 exact ⟨_,g2,g.next,rfl,⟨⟨K.E.more o2 (fun _ e=>e.elim) rfl rfl,K.y6,Old.get o2 K.gV,K.hm.bA o2,K.hV⟩,rfl,C2,hVl,cT _⟩⟩
variable {W:Nat} {q:Cu}
theorem M14.ldm (M:M14 h g a n c l y V W m sl q):bD 116 (ptr V 0) g=some (mv m sl,g):=(m_ld M.K.hm M.K.gV).all
theorem M14.rd (M:M14 h g a n c l y V W m aZ q) {f:FuncId} {p:aO×Cu} (r : ∀ v,ej g h.next v q→Ret g h.next (CW f [mv m aZ,v] g) p) {y':Nat→Value} (e0:y' 0=y 0) (e2:y' 2=y 2) (e6:y' 6=y 6) (e7:y' 7=y 7) :
  ∃ v sl v' g1 g2 g3,bD 2 (ptr W 0) g=some (v,g)∧CW f [mv m aZ,v] g=some (.tuple #[mv p.1 sl,v'],g1)∧bw 116 (ptr V 0) (mv p.1 sl) g1=some (undef,g2)∧bw 2 (ptr W 0) v' g2=some (undef,g3)∧M14 h g3 a n c l y' V W p.1 sl p.2:=by
 obtain ⟨v,Vv,_,lv,_⟩:=M.gW.ld
 obtain ⟨sl,v',g1,e1,H1,V1,o1,so⟩:=r v Vv
 have hV:=M.K.hV
 have hW:=M.hW
 have Wl:=M.gW.lt
 have cc:=cP H1.sl (aO.ok H1.wf)
 have n0:g1.n0≤h.next:=by rw [o1.n0,M.K.E.o1.n0];exact h.aK
 have so':sl.off (fun b=>b≤W):=fun v hv b hb e=>so v hv b hb (Nat.lt_of_le_of_lt e Wl)
 obtain ⟨g2,e3,k3,G2,_,_⟩:=bJ (n:=116) (k':=p.1.d.cells sl) (Old.get o1 M.K.gV) (by omega) (fS (aO.ok M.K.hm.wf)) cc.2.2 cc.2.1
 have C2:=(M.gW.bA o1).bF k3 (by omega) (fun b e=>by omega)
 obtain ⟨g3,e4,k4,C3,_⟩:=C2.put (V1.k0 k3 (by omega)) (by rw [k3.n0];omega) (by omega)
 have H3:=(H1.bF k3 (fun v hv b hb e=>so' v hv b hb (by omega))).bF k4 (fun v hv b hb e=>so' v hv b hb (by omega))
 exact ⟨v,sl,v',g1,g2,g3,lv g rfl,e1,e3,e4,⟨⟨((M.K.E.more o1 (fun _ e=>e.elim) rfl rfl).more k3 (fun b e=>by omega) rfl rfl).more k4 (fun b e=>by omega) e0 e2,e6.trans M.K.y6,k4.dj G2 (by omega),H3,hV⟩,e7.trans M.y7,C3,hW,so'⟩⟩
theorem s14_9 (M:M14 h g a n c l y V W m aZ q) (hr:m.cp = []) (ht:m.table = []) : ∃ y' g' sl',k14s9 CW (aJ 106 y) g=k14s10 CW (aJ 106 y') g'∧M14 h g' a n c l y' V W (refB m q).1 sl' (refB m q).2:=by
 have l0:=M.K.kind
 have lm:=M.ldm
 have hG:4≤g.n0:=by rw [M.K.E.o1.n0];exact M.K.E.hG
 have hN:h.next≤g.next:=M.K.E.o1.next
 have q3:bin Tryz.prog .leq 24 (.int .u8 (m.kind:Int)) (.int .u8 3)=some (.bool (decide ((m.kind:Int)≤3))):=aD ..
 have q5:bin Tryz.prog .leq 24 (.int .u8 (m.kind:Int)) (.int .u8 5)=some (.bool (decide ((m.kind:Int)≤5))):=aD ..
 rw [t14s9_eq]
 unfold t14s9 refB
 by_cases d:m.kind≤3
 ·rw [if_pos d]
  rw [decide_eq_true (by omega)] at q3
  obtain ⟨v,sl,v',g1,g2,g3,e1,e2,e3,e4,R⟩:=M.rd (f:=40) (p:=rTable m q) (fun v Vv=>r40 hG hN M.K.hm ht Vv) (y':=y) rfl rfl rfl rfl
  simp -implicitDefEqProofs only [M.K.y6, M.y7, l0, q3, lm, e1, e2, e3, e4, af, ak, a8, a7, al, Nat.zero_add]
  exact ⟨_,g3,sl,rfl,⟨R.K.go rfl rfl rfl,R.y7,R.gW,R.hW,R.so⟩⟩
 rw [if_neg d]
 rw [decide_eq_false (by omega)] at q3
 by_cases d5:m.kind≤5
 ·rw [if_pos d5]
  rw [decide_eq_true (by omega)] at q5
  obtain ⟨v,sl,v',g1,g2,g3,e1,e2,e3,e4,R⟩:=M.rd (f:=41) (p:=rItems m q) (fun v Vv=>r41 (M.K.E.hz.bA M.K.E.o1) hG hN M.K.hm hr Vv) (y':=y) rfl rfl rfl rfl
  simp -implicitDefEqProofs only [M.K.y6, M.y7, l0, q3, q5, lm, e1, e2, e3, e4, af, ak, a8, a7, al, Nat.zero_add]
  exact ⟨_,g3,sl,rfl,⟨R.K.go rfl rfl rfl,R.y7,R.gW,R.hW,R.so⟩⟩
 ·rw [if_neg d5]
  rw [decide_eq_false (by omega)] at q5
  obtain ⟨v,sl,v',g1,g2,g3,e1,e2,e3,e4,R⟩:=M.rd (f:=42) (p:=fj m q) (fun v Vv=>r42 hG hN M.K.hm Vv) (y':=y) rfl rfl rfl rfl
  simp -implicitDefEqProofs only [M.K.y6, M.y7, l0, q3, q5, lm, e1, e2, e3, e4, af, ak, a8, a7, al, Nat.zero_add]
  exact ⟨_,g3,sl,rfl,⟨R.K.go rfl rfl rfl,R.y7,R.gW,R.hW,R.so⟩⟩
theorem gtrL (n:Nat):bin Tryz.prog .gtr 3 (aH n) (.int .i64 0)=some (.bool (decide (0<n))):=gtr3 n 0
theorem x14_10 (M:M14 h g a n c l y V W m sl q) (c1:q.bad=true∨q.l ≠ []):Ret14 h (k14s10 CW (aJ 106 y) g) (aO.z,5):=by
 obtain ⟨_,_,_,_,lb,a1,p1,_,ll,_⟩:=M.gW.ld
 have hln:bG (.slice a1 q.l.length p1)=some (aH q.l.length):=rfl
 have qg:=gtrL q.l.length
 obtain ⟨hz1,e1,ld1z,O1,Hz⟩:=M.K.E.zero
 refine ⟨aZ,hz1,?_,Hz,O1,cT _⟩
 rw [t14s10_eq]
 unfold t14s10
 cases hb:q.bad with
 |true=>
  rw [hb] at lb
  simp -implicitDefEqProofs only [M.y7, M.K.E.y2, lb, bz14, e1, af, ak, ao, sf, ah, if_true, al, Nat.zero_add]
  exact fin14 _ _ _ _ M.K.E.y2 rfl ld1z
 |false=>
  rw [hb] at lb
  have h0:0<q.l.length:=by
   rcases c1 with e|e
   ·rw [hb] at e;cases e
   ·exact List.length_pos_iff.2 e
  rw [decide_eq_true h0] at qg
  simp -implicitDefEqProofs only [M.y7, M.K.E.y2, lb, ll, hln, qg, bz14, e1, af, ak, ao, beq_self_eq_true, ai, Bool.false_eq_true, if_false, al, Nat.zero_add]
  exact fin14 _ _ _ _ M.K.E.y2 rfl ld1z
theorem M14.go (M:M14 h g a n c l y V W m sl q) {y':Nat→Value} (e0:y' 0=y 0) (e2:y' 2=y 2) (e6:y' 6=y 6) (e7:y' 7=y 7):M14 h g a n c l y' V W m sl q:=⟨M.K.go e0 e2 e6,e7.trans M.y7,M.gW,M.hW,M.so⟩
theorem s14_10 (M:M14 h g a n c l y V W m sl q) (c1:q.bad=false) (c2:q.l = []) : ∃ y',k14s10 CW (aJ 106 y) g=k14s11 CW (aJ 106 y') g∧M14 h g a n c l y' V W m sl q:=by
 obtain ⟨_,_,_,_,lb,a1,p1,_,ll,_⟩:=M.gW.ld
 have hln:bG (.slice a1 q.l.length p1)=some (aH q.l.length):=rfl
 have qg:=gtrL q.l.length
 rw [decide_eq_false (by rw [c2];decide)] at qg
 rw [c1] at lb
 rw [t14s10_eq]
 unfold t14s10
 simp -implicitDefEqProofs only [M.y7, lb, ll, hln, qg, af, ak, ao, beq_self_eq_true, ai, Bool.false_eq_true, if_false, al, Nat.zero_add]
 exact ⟨_,rfl,M.go rfl rfl rfl rfl⟩
theorem s14_12 (M:M14 h g a n c l y V W m sl q):Ret14 h (k14s12 CW (aJ 106 y) g) (m,0):=by
 have lm:=M.ldm
 have hV:=M.K.hV
 have hW:=M.hW
 obtain ⟨g1,e1,l1,O1,H1⟩:=msg_end M.K.E.o1 (Nat.le_refl _) M.K.E.g1 rfl M.K.hm (fun v hv b hb e=>M.so v hv b hb (by have e:b=_:=e;omega))
 refine ⟨sl,g1,?_,H1,O1,fun v hv b hb e=>M.so v hv b hb (by have e:b<_:=e;omega)⟩
 rw [t14s12_eq]
 unfold t14s12
 simp -implicitDefEqProofs only [M.K.y6, M.K.E.y2, lm, e1, af]
 exact fin14 _ _ _ _ M.K.E.y2 rfl l1
theorem s14_11 (M:M14 h g a n c l y V W m sl q) (sm:m.n.Small):Ret14 h (k14s11 CW (aJ 106 y) g) (if ft m=true then (m,0) else (aO.z,2)):=by
 have lm:=M.ldm
 have hG:4≤g.n0:=by rw [M.K.E.o1.n0];exact M.K.E.hG
 obtain ⟨g1,e1,o1⟩:=r25 hG (M.K.E.hz.bA M.K.E.o1) M.K.hm sm
 rw [t14s11_eq]
 unfold t14s11
 cases hv:ft m with
 |true=>
  rw [hv] at e1
  rw [if_pos rfl]
  simp -implicitDefEqProofs only [M.K.y6, lm, e1, af, ak, Bool.not_true, av]
  refine s14_12 (V:=V) (W:=W) (q:=q) ⟨⟨M.K.E.more o1 (fun _ e=>e.elim) rfl rfl,M.K.y6,Old.get o1 M.K.gV,M.K.hm.bA o1,M.K.hV⟩,M.y7,M.gW.bA o1,M.hW,M.so⟩
 |false=>
  rw [hv] at e1
  rw [if_neg (by decide)]
  obtain ⟨hz1,e2,ld1z,O1,Hz⟩:=(M.K.E.more o1 (fun _ e=>e.elim) rfl rfl:E14 h g1 a n c l y).zero
  refine ⟨aZ,hz1,?_,Hz,O1,cT _⟩
  simp -implicitDefEqProofs only [M.K.y6, M.K.E.y2, lm, e1, bz14, e2, af, ak, Bool.not_false, av]
  exact fin14 _ _ _ _ M.K.E.y2 rfl ld1z
theorem is14:bO Tryz.prog 14 Tryz.f14:=⟨by kernel_rfl,by kernel_rfl,by kernel_rfl,by kernel_rfl⟩
theorem r14 (hG:4≤h.n0) (hz:GZ h) (hl:ay a n h=some l) (hg:10≤n→cn a n c=true) (hn:n≤1000000):Ret14 h (CW 14 [.slice a n c] h) (decF l):=by
 have key:Ret14 h (k14s0 CW (aJ 106 (bs [.slice a n c])) h) (ofF l):=by
  obtain ⟨h1,z1,o1,g1,n1⟩:=fresh Zl h
  have st : ∃ y,k14s0 CW (aJ 106 (bs [.slice a n c])) h=k14s1 CW (aJ 106 y) h1∧E14 h h1 a n c l y:=by
   rw [t14s0_eq]
   unfold t14s0
   simp -implicitDefEqProofs only [z1, af]
   exact ⟨_,rfl,hG,hz,hl,hg,hn,o1,g1,rfl,rfl⟩
  obtain ⟨y1,e1,E1⟩:=st
  rw [e1]
  obtain ⟨y2,e2,E2,y24,y25⟩:=s14_1 E1
  rw [e2]
  unfold ofF
  by_cases c1:(cH l).2≠0
  ·rw [if_pos c1]
   exact x14_2 E2 c1 y25
  rw [if_neg c1]
  have c1:(cH l).2=0:=by simpa using c1
  obtain ⟨y3,e3,E3,y34⟩:=s14_2 E2 c1 y25
  rw [e3]
  obtain ⟨L1,L2⟩:=lenE_ge c1
  have hlen:=E1.len
  by_cases c2:l.length<(cH l).1
  ·rw [if_pos c2]
   exact x14_3 E3 c2 (y34.trans y24)
  rw [if_neg c2]
  obtain ⟨y4,e4,E4,y44⟩:=s14_3 E3 c2 (y34.trans y24)
  rw [e4]
  by_cases c3:(cH l).1<l.length
  ·rw [if_pos c3]
   exact x14_4 E4 c3 (y44.trans (y34.trans y24))
  rw [if_neg c3]
  obtain ⟨y5,e5,E5,eN⟩:=s14_4 E4 c3 (y44.trans (y34.trans y24))
  rw [e5]
  have hL:(cH l).1=n:=by omega
  have hy4:y5 4 = .int .i64 (n:Nat):=by rw [eN,y44,y34,y24,hL]
  have h14:14≤n:=by omega
  by_cases c4:be ((l.drop (l.length-4)).take 4)≠crcN (l.take (l.length-4))
  ·rw [if_pos c4]
   exact x14_5 E5 h14 c4 hy4
  rw [if_neg c4]
  obtain ⟨y6,e6,E6,y64⟩:=s14_5 E5 h14 c4 hy4
  rw [e6]
  obtain ⟨y7,g7,V,e7,K7,y74⟩:=s14_6 E6 h14
  rw [e7]
  by_cases c5:kindOk (l.getD 3 0)=false
  ·rw [if_pos c5]
   exact x14_7 K7 c5
  rw [if_neg c5]
  have c5:kindOk (l.getD 3 0)=true:=by simpa using c5
  obtain ⟨y8,e8,K8,y84⟩:=s14_7 K7 c5
  rw [e8]
  obtain ⟨y9,g9,W,e9,M9⟩:=s14_8 K8 h14 (by omega) (y84.trans (y74.trans (y64.trans hy4)))
  rw [e9]
  obtain ⟨y10,g10,sl10,e10,M10⟩:=s14_9 M9 rfl rfl
  rw [e10]
  have R:=res_body (f:=l.getD 4 0) (t:=l.getD 5 0) c5 (s:=⟨(l.drop 10).take (l.length-4-10),0⟩) (c:=⟨(l.drop 10).take (l.length-4-10),false⟩) (.inl ⟨rfl,rfl,rfl⟩)
  generalize hp:refB (aO.hd (l.getD 3 0) (l.getD 4 0) (l.getD 5 0)) ⟨(l.drop 10).take (l.length-4-10),false⟩=p at R M10 ⊢
  by_cases c6:p.2.bad=true∨p.2.l ≠ []
  ·rw [if_pos c6]
   exact x14_10 M10 c6
  rw [if_neg c6]
  have c7:p.2.bad=false∧p.2.l = []:=by
   rw [not_or] at c6
   exact ⟨by simpa using c6.1,Decidable.not_not.1 c6.2⟩
  obtain ⟨y11,e11,M11⟩:=s14_10 M10 c7.1 c7.2
  rw [e11]
  have sm:p.1.n.Small:=by
   rcases R with ⟨_,e⟩|⟨b,_⟩
   ·exact rBody_small (s:=⟨(l.drop 10).take (l.length-4-10),0⟩) (by show (List.take _ _).length≤_;rw [List.length_take];omega) (fun y hy=>E1.bys y (List.mem_of_mem_drop (List.mem_of_mem_take hy))) ⟨Nat.zero_le _,Nat.zero_le _,Nat.zero_le _,Nat.zero_le _,Nat.zero_le _,Nat.zero_le _⟩ e
   ·rw [c7.1] at b;cases b
  exact s14_11 M11 sm
 rw [←ofF_eq]
 obtain ⟨sl,h',e,r⟩:=key
 exact ⟨sl,h',aF is14 hG rfl ((t14_eq _ _ _).trans e),r⟩
end
end Go.Proofs.YtjghlcdidopcpaaGreatDoor

namespace Go.Proofs.YtjghlcdidopcpaaGreatDoor
open Go Go.Abs
attribute [local congr] aU
abbrev MS:=aO×cR
def cellsL (l:List MS):List Value:=l.flatMap fun p=>p.1.d.cells p.2
theorem cellsL_snoc (l:List MS) (p:MS):cellsL (l ++ [p])=cellsL l++p.1.d.cells p.2:=by unfold cellsL;simp
structure OwnM (h:aj) (N:Nat) (v:Value) (l:List MS):Prop where
 own:dJ h N 116 v l.length (cellsL l)
 has : ∀ p∈l,Has h p.2 p.1
 off : ∀ p∈l,p.2.off (fun b=>dm v=some b)
theorem OwnM.nil (h:aj) (N:Nat):OwnM h N (.slice none 0 0) []:=⟨.nil h N 116,fun p hp=>(by cases hp),fun p hp=>by cases hp⟩
theorem OwnM.bA {h h':aj} {N:Nat} {v:Value} {l:List MS} (o:OwnM h N v l) (k:Old h h'):OwnM h' N v l:=
 ⟨o.own.bF k (fun _ _ h=>h),fun p hp=>(o.has p hp).bA k,o.off⟩
theorem bslZ (m:aO) (s:cR) (h:aj) (hl:(m.d.cells s).length=116) (ho:aQ (m.d.cells s)=true):bslR 116 (.agg Zl.toArray) 1 [(0,mv m s)] h=some (.slice (some ⟨h.next,0,none⟩) 1 1,h.alloc (m.d.cells s)):=
 bsl_one (n:=116) (z:=Zm) h rfl (by decide) (by decide) (by decide) hl ho
theorem dJ.base_lt {h:aj} {N size:Nat} {v:Value} {len:Nat} {cells:List Value} (o:dJ h N size v len cells) {b:Nat} (hb:dm v=some b):0<len→b<h.next:=by
 intro hl
 obtain ⟨_,_,_,h4⟩:=o
 rcases h4 with ⟨rfl,h0⟩|⟨c,s,rfl,_,h5⟩
 ·cases hb
 ·have hb:some c=some b:=hb
  cases hb
  rcases h5 with ⟨_,h0⟩|⟨_,hg⟩
  ·omega
  ·exact h.bc hg
theorem cR.off_mono {s:cR} {B B':Nat→Prop} (x:s.off B) (h : ∀ b,B' b→B b):s.off B':=fun v hv b hb e=>x v hv b hb (h b e)
theorem app_msg {h:aj} {N:Nat} {v:Value} {l:List MS} {m:aO} {s:cR} (o:OwnM h N v l) (x:Has h s m) (hs:s.off (fun b=>dm v=some b)) (h0:h.n0≤N) (hN:N≤h.next) (hl:l.length≤1000000) :
  ∃ v' h',cl 116 352 v (.slice (some ⟨h.next,0,none⟩) 1 1) (h.alloc (m.d.cells s))=some (v',h')∧OwnM h' N v' (l ++ [(m,s)])∧(∀ hb:aj,N=hb.next→Old hb h→Old hb h'):=by
 have c:=cP x.sl (aO.ok x.wf)
 have o1:Old h (h.alloc (m.d.cells s)):=Kept.alloc _ _ _
 have g1:(h.alloc (m.d.cells s)).get h.next=some (m.d.cells s):=by rw [aj.aS,if_pos rfl]
 have hf:b0 116 1 (.slice (some ⟨h.next,0,none⟩) 1 1) (h.alloc (m.d.cells s))=some (m.d.cells s):=by
  unfold b0
  simp only
  rw [if_neg (by decide),g1]
  simp only [Nat.one_mul,Nat.zero_add,List.drop_zero]
  rw [List.take_of_length_le (by rw [c.2.2];exact Nat.le_refl _),if_pos ⟨by rw [c.2.2];exact Nat.le_refl _,c.1⟩]
 have O:=(o.bA o1)
 obtain ⟨v',h',e1,e2,k,e3⟩:=eS (by_:=352) (m:=1) O.own (by rw [o1.n0];exact h0) (by rw [aj.dw];omega) (by decide) rfl hf c.2.1 c.1 (by rw [c.2.2]) (by omega) (by omega)
 have kb : ∀ (q:cR),q.off (fun b=>dm v=some b)→q.off (fun b=>dm v=some b∧(h.alloc (m.d.cells s)).get b=some (cellsL l)):=fun q hq=>cR.off_mono hq (fun b e=>e.1)
 have nx:(h.alloc (m.d.cells s)).next=h.next+1:=aj.dw ..
 have off' : ∀ (q:cR) (mm:aO),Has h q mm→q.off (fun b=>dm v=some b)→q.off (fun b=>dm v'=some b):=fun q mm hq ho=>by
  rcases e3 with rfl|⟨e3,_⟩
  ·exact ho
  ·intro w hw b hb e
   rw [e3] at e
   have e:=Option.some.inj e
   have:=hq.sl.lt (p:=h.next) (Nat.le_refl _) w hw b hb
   omega
 refine ⟨v',h',e1,⟨?_,?_,?_⟩,fun hb hn ob => ?_⟩
 ·rw [List.length_append,cellsL_snoc];exact e2
 ·intro p hp
  rcases List.mem_append.1 hp with hp|hp
  ·exact ((o.has p hp).bA o1).bF k (kb _ (o.off p hp))
  ·obtain rfl:=List.mem_singleton.1 hp
   exact (x.bA o1).bF k (kb _ hs)
 ·intro p hp
  rcases List.mem_append.1 hp with hp|hp
  ·exact off' _ _ (o.has p hp) (o.off p hp)
  ·obtain rfl:=List.mem_singleton.1 hp
   exact off' _ _ x hs
 ·refine (ob.trans o1).cE k (fun d hd e => ?_)
  have:=O.own.base e.1
  omega
def cI:Nat→List Nat→List aO×Nat×Int
 | 0,_=>([],0,0)
 |k+1,l=>
  if l.length<10 then ([],0,0) else
  if (cH l).2≠0 then ([],0,(cH l).2) else
  if l.length<(cH l).1 then ([],0,0) else
  if (decF (l.take (cH l).1)).2≠0 then ([],0,(decF (l.take (cH l).1)).2) else
  ((decF (l.take (cH l).1)).1::(cI k (l.drop (cH l).1)).1,(cH l).1+(cI k (l.drop (cH l).1)).2.1,(cI k (l.drop (cH l).1)).2.2)
theorem scan_succ (k:Nat) (l:List Nat):cI (k+1) l=(if l.length<10 then ([],0,0) else
  if (cH l).2≠0 then ([],0,(cH l).2) else
  if l.length<(cH l).1 then ([],0,0) else
  if (decF (l.take (cH l).1)).2≠0 then ([],0,(decF (l.take (cH l).1)).2) else
  ((decF (l.take (cH l).1)).1::(cI k (l.drop (cH l).1)).1,(cH l).1+(cI k (l.drop (cH l).1)).2.1,(cI k (l.drop (cH l).1)).2.2)):=rfl
theorem res_three {P:Program} {rs:List ResultVar} {n t u w:Nat} (hr:rs = [.tmp t,.tmp u,.tmp w]) (ht:t<n) (hu:u<n) (hw:w<n) (x:Nat→Value) (h:aj):ar P rs (aJ n x) h=some (.tuple #[x t,x u,x w],h):=by
 subst hr
 have g : ∀ k,k<n→(aJ n x).getD k undef=x k:=fun k hk=>by
  unfold aJ
  rw [List.getD_eq_getElem?_getD,List.getElem?_map,List.getElem?_range hk];rfl
 simp only [ar,List.mapM_cons,List.mapM_nil,dI,g t ht,g u hu,g w hw,Option.bind_eq_bind,Option.bind_some,Option.pure_def,Option.map_some]
theorem is29:bO Tryz.prog 29 Tryz.f29:=⟨by kernel_rfl,by kernel_rfl,by kernel_rfl,by kernel_rfl⟩
theorem results29:Tryz.f29.results.toList = [.tmp 2,.tmp 3,.tmp 4]:=by kernel_rfl
theorem b29_exit (C:au) (e:Env) (h:aj):b29_4 C 0 e h=k29_3 C e h:=rfl
def scInv (h0:aj) (a:Option Addr) (n c:Nat) (l:List Nat) (k:Nat) (y:Nat→Value) (g:aj):Prop:=
 ∃ u pl,y 0 = .slice a n c∧y 6=aH u∧u≤l.length∧OwnM g h0.next (y 5) pl∧(pl = []→y 5 = .slice none 0 0)∧Old h0 g∧pl.length≤u∧k=l.length-u+1 ∧
   cI (l.length+1) l=(pl.map Prod.fst++(cI k (l.drop u)).1,u+(cI k (l.drop u)).2.1,(cI k (l.drop u)).2.2)
def scFin (h0:aj) (l:List Nat) (ex:Ex) (y:Nat→Value) (g:aj):Prop:=
 Old h0 g ∧ ∃ pl,pl.map Prod.fst=(cI (l.length+1) l).1∧pl.length≤l.length ∧
  ((ex = .ret∧OwnM g h0.next (y 2) pl∧y 3=aH (cI (l.length+1) l).2.1∧y 4 = .int .i64 (cI (l.length+1) l).2.2) ∨
   (ex = .exit 0∧OwnM g h0.next (y 5) pl∧y 6=aH (cI (l.length+1) l).2.1∧(cI (l.length+1) l).2.2=0))
theorem scan_more : ∀ (k:Nat) (l:List Nat),l.length<k→cI k l=cI (l.length+1) l
 | 0,l,h=>by omega
 |k+1,l,h=>by
  rw [cI,cI]
  split
  ·rfl
  split
  ·rfl
  split
  ·rfl
  split
  ·rfl
  rename_i c1 c2 c3 c4
  have hL:=lenE_ge (Decidable.not_not.1 c2)
  rw [scan_more k _ (by rw [List.length_drop];omega),scan_more l.length (l.drop (cH l).1) (by rw [List.length_drop];omega)]
section
variable {h0:aj} {a:Option Addr} {n c:Nat} {l:List Nat} (hG:4≤h0.n0) (hl:ay a n h0=some l) (hg:cn a n c=true) (hn:n≤1000000)
include hG hl hg hn
set_option maxRecDepth 100000 in
set_option maxHeartbeats 4000000 in
theorem scRound : ∀ k y g,scInv h0 a n c l k y g→dd 57 (scInv h0 a n c l) (scFin h0 l) k (t29l29_11100 CW y g):=by
 rintro k y g ⟨u,pl,y0,y6,hu,O,nil5,K,hpl,hk,hs⟩
 have hlen:=(aw hl).1
 have hby:=(aw hl).2.1
 have hln:bG (.slice a n c)=some (aH n):=rfl
 have hg4:4≤g.n0:=by rw [K.n0];exact hG
 have sb:bin Tryz.prog .sub 3 (aH n) (aH u)=some (aH (n-u)):=sub3 (by omega) (by omega)
 have ge:bin Tryz.prog .geq 3 (aH (n-u)) (.int .i64 10)=some (.bool (decide (((n-u:Nat):Int)≥10))):=aE ..
 have hdl:(l.drop u).length=n-u:=by rw [List.length_drop,hlen]
 rw [hk,scan_succ (l.length-u) (l.drop u)] at hs
 unfold t29l29_11100
 by_cases c1:(l.drop u).length<10
 ·rw [if_pos c1] at hs
  rw [decide_eq_false (by omega)] at ge
  simp -implicitDefEqProofs only [y0,y6,hln,sb,ge,af,ak]
  refine dd.out 0 ⟨K,pl,by rw [hs];simp,by omega,.inr ⟨rfl,O,?_,by rw [hs]⟩⟩
  show y 6=_
  rw [y6,hs,Nat.add_zero]
 rw [if_neg c1] at hs
 rw [decide_eq_true (by omega)] at ge
 obtain ⟨a1,c1',z1,s1,g1⟩:=slR_from (c:=c) hg (Old.bytes K hl) (by omega:u≤n)
 obtain ⟨h2,e2,o2⟩:=q31 (h:=g) hg4 (c:=c1') s1 g1 (by omega)
 by_cases c2:(cH (l.drop u)).2≠0
 ·rw [if_pos c2] at hs
  have q2:bin Tryz.prog .neq 35 (.int .i64 (cH (l.drop u)).2) (.int .i64 0)=some (.bool true):=by rw [ax];simpa using c2
  simp -implicitDefEqProofs only [y0,y6,hln,sb,ge,z1,e2,a8,a7,q2,af,ak]
  refine dd.ret ⟨K.trans o2,pl,by rw [hs];simp,by omega,.inl ⟨rfl,O.bA o2,?_,by rw [hs];rfl⟩⟩
  show aH u=_
  rw [hs,Nat.add_zero]
 rw [if_neg c2] at hs
 have c2':=Decidable.not_not.1 c2
 have hL:=lenE_ge c2'
 rw [c2'] at e2
 have q2:bin Tryz.prog .neq 35 (.int .i64 0) (.int .i64 0)=some (.bool false):=by rw [ax];rfl
 generalize (cH (l.drop u)).1=L at *
 have gt:bin Tryz.prog .gtr 3 (.int .i64 (L:Int)) (aH (n-u))=some (.bool (decide ((L:Int)>((n-u:Nat):Int)))):=aB ..
 by_cases c3:(l.drop u).length<L
 ·rw [if_pos c3] at hs
  rw [decide_eq_true (by omega)] at gt
  simp -implicitDefEqProofs only [y0,y6,hln,sb,ge,z1,e2,a8,a7,q2,gt,af,ak]
  refine dd.out 0 ⟨K.trans o2,pl,by rw [hs];simp,by omega,.inr ⟨rfl,O.bA o2,?_,by rw [hs]⟩⟩
  show y 6=_
  rw [y6,hs,Nat.add_zero]
 rw [if_neg c3] at hs
 rw [decide_eq_false (by omega)] at gt
 have ad:bin Tryz.prog .add 3 (aH u) (.int .i64 (L:Int))=some (aH (u+L)):=add3 (by omega)
 have K2:=K.trans o2
 obtain ⟨a3,c3',z3,s3,g3⟩:=slR_mid (c:=c) (lo:=u) (hi:=u+L) hg (Old.bytes K2 hl) (by omega) (by omega)
 rw [show u+L-u=L by omega] at z3 s3 g3
 obtain ⟨sl,h4,e4,x4,o4,f4⟩:=ew (h:=h2) (by rw [K2.n0];exact hG) (c:=c3') s3 g3 (by omega)
 have K4:=K2.trans o4
 have z4:=newZ h4
 obtain ⟨h5,e5,o5,g5,n5⟩:=var_m x4
 have K5:=K4.trans o5
 by_cases c4:(decF ((l.drop u).take L)).2≠0
 ·rw [if_pos c4] at hs
  have q4:bin Tryz.prog .neq 35 (.int .i64 (decF ((l.drop u).take L)).2) (.int .i64 0)=some (.bool true):=by rw [ax];simpa using c4
  simp -implicitDefEqProofs only [y0,y6,hln,sb,ge,z1,e2,a8,a7,q2,gt,ad,z3,e4,z4,e5,q4,af,ak]
  refine dd.ret ⟨K5,pl,by rw [hs];simp,by omega,.inl ⟨rfl,O.bA (o2.trans (o4.trans o5)),?_,by rw [hs];rfl⟩⟩
  show aH u=_
  rw [hs,Nat.add_zero]
 rw [if_neg c4] at hs
 have c4':=Decidable.not_not.1 c4
 rw [c4'] at e4
 have x5:=x4.bA o5
 have A5:=(m_ld x5 g5).all
 have c5:=cP x5.sl (aO.ok x5.wf)
 have z6:=bslZ (decF ((l.drop u).take L)).1 sl h5 c5.2.2 c5.2.1
 have O5:=O.bA (o2.trans (o4.trans o5))
 obtain ⟨v',h6,e6,O6,k6⟩:=app_msg (h:=h5) O5 x5 (fun w hw b hb e=>by
  have h1:=f4 w hw b hb
  rcases List.eq_nil_or_concat pl with rfl|⟨q,r,rfl⟩
  ·rw [nil5 rfl] at e
   cases e
  ·have:=O.own.base_lt e (by simp)
   have:=o2.next
   omega) (by rw [K5.n0];exact h0.aK) K5.next (by omega)
 simp -implicitDefEqProofs only [y0,y6,hln,sb,ge,z1,e2,a8,a7,q2,gt,ad,z3,e4,z4,e5,A5,z6,e6,af,ak]
 refine dd.next (l.length-(u+L)+1) (by omega) ⟨u+L,pl ++ [((decF ((l.drop u).take L)).1,sl)],y0,rfl,by omega,O6,(fun h=>absurd h (by simp)),k6 h0 rfl K5,by simp;omega,rfl,?_⟩
 rw [hs,List.drop_drop,scan_more (l.length-u) _ (by rw [List.length_drop];omega),show (l.drop (u+L)).length+1=l.length-(u+L)+1 by rw [List.length_drop]]
 simp only [List.map_append,List.map_cons,List.map_nil,List.append_assoc,List.cons_append,List.nil_append,Nat.add_assoc]
end
end Go.Proofs.YtjghlcdidopcpaaGreatDoor

namespace Go.Proofs.YtjghlcdidopcpaaGreatDoor
open Go Go.Abs
attribute [local congr] aU
theorem ext2 (a b c:Value):aG (.tuple #[a,b,c]) 2=some c:=rfl
theorem ext30 (a b c:Value):aG (.tuple #[a,b,c]) 0=some a:=rfl
theorem ext31 (a b c:Value):aG (.tuple #[a,b,c]) 1=some b:=rfl
theorem q29 {h:aj} (hG:4≤h.n0) {a:Option Addr} {n c:Nat} {l:List Nat} (hl:ay a n h=some l) (hg:cn a n c=true) (hn:n≤1000000) :
  ∃ v pl h',CW 29 [.slice a n c] h=some (.tuple #[v,aH (cI (l.length+1) l).2.1,.int .i64 (cI (l.length+1) l).2.2],h')∧Old h h'∧OwnM h' h.next v pl∧pl.map Prod.fst=(cI (l.length+1) l).1:=by
 have hlen:=(aw hl).1
 have key : ∃ v pl h',t29 CW (.slice a n c) h=some (.tuple #[v,aH (cI (l.length+1) l).2.1,.int .i64 (cI (l.length+1) l).2.2],h')∧Old h h'∧OwnM h' h.next v pl∧pl.map Prod.fst=(cI (l.length+1) l).1:=by
  unfold t29
  simp -implicitDefEqProofs only [af]
  refine bY (Q:=fun o:Out => ∃ v pl h',o=some (Value.tuple #[v,aH (cI (l.length+1) l).2.1,.int .i64 (cI (l.length+1) l).2.2],h')∧Old h h'∧OwnM h' h.next v pl∧pl.map Prod.fst=(cI (l.length+1) l).1)
   (bZ (t29l29_11100_eq CW) (scRound (h0:=h) (a:=a) (n:=n) (c:=c) (l:=l) hG hl hg hn) (l.length+1) (by have:rounds=18446744073709551616:=rfl;omega)
    ⟨0,[],rfl,rfl,Nat.zero_le _,.nil _ _,fun _=>rfl,Kept.refl _ _,Nat.le_refl _,rfl,by simp⟩) ?_
  rintro ex y g ⟨K,pl,hp,_,F⟩
  rcases F with ⟨rfl,O,y3,y4⟩|⟨rfl,O,y6,e0⟩
  ·exact ⟨_,pl,g,by rw [dG,res_three results29 (by decide) (by decide) (by decide),y3,y4],K,O,hp⟩
  ·refine ⟨_,pl,g,?_,K,O,hp⟩
   rw [bE,b29_exit,t29k29_3_eq]
   unfold t29k29_3
   simp -implicitDefEqProofs only [af,y6,e0]
 obtain ⟨v,pl,h',e,r⟩:=key
 exact ⟨v,pl,h',aF is29 hG rfl ((t29_eq _ _ _).trans e),r⟩
def MsgsV (h:aj) (v:Value) (ms:List aO):Prop:=bG v=some (aH ms.length) ∧ ∀ (i:Nat) (m:aO),ms[i]? = some m → ∃ b o k s,bB 116 v (aH i)=some (ptr b o)∧h.get b=some k∧o+116≤k.length∧(k.drop o).take 116=m.d.cells s∧Has h s m
theorem MsgsV.bA {h h':aj} {v:Value} {ms:List aO} (V:MsgsV h v ms) (o:Old h h'):MsgsV h' v ms:=⟨V.1,fun i m hm=>by
 obtain ⟨b,p,k,s,h1,h2,h3,h4,h5⟩:=V.2 i m hm
 exact ⟨b,p,k,s,h1,o.get h2,h3,h4,h5.bA o⟩⟩
theorem MsgsV.at {h:aj} {v:Value} {ms:List aO} (V:MsgsV h v ms) {i:Nat} {m:aO} (hm:ms[i]? = some m) : ∃ pt s,bB 116 v (aH i)=some pt∧Has h s m ∧ ∀ h',Old h h'→bD 116 pt h'=some (mv m s,h'):=by
 obtain ⟨b,p,k,s,h1,h2,h3,h4,h5⟩:=V.2 i m hm
 refine ⟨_,s,h1,h5,fun h' o => ?_⟩
 have:=ldN_at (n:=116) (o.get h2) (o:=p) h3 (by rw [h4];exact (cP h5.sl (aO.ok h5.wf)).1)
 rw [h4] at this
 exact this
theorem cellsL_at : ∀ (l:List MS) (i:Nat) (p:MS),(∀ q∈l,(q.1.d.cells q.2).length=116)→l[i]? = some p→((cellsL l).drop (i*116)).take 116=p.1.d.cells p.2∧i*116+116≤(cellsL l).length
 | [],i,p,_,h=>by cases h
 |q::l,0,p,hl,h=>by
  cases h
  have h1:=hl q List.mem_cons_self
  refine ⟨?_,?_⟩
  ·rw [Nat.zero_mul,List.drop_zero,cellsL,List.flatMap_cons,List.take_left' h1]
  ·rw [cellsL,List.flatMap_cons,List.length_append]
   omega
 |q::l,i+1,p,hl,h=>by
  have h1:=hl q List.mem_cons_self
  obtain ⟨a,b⟩:=cellsL_at l i p (fun r hr=>hl r (List.mem_cons_of_mem _ hr)) h
  have e:cellsL (q::l)=q.1.d.cells q.2++cellsL l:=by unfold cellsL;rw [List.flatMap_cons]
  refine ⟨?_,?_⟩
  ·rw [e,Nat.add_mul,Nat.one_mul,Nat.add_comm (i*116),←h1,List.drop_length_add_append,h1]
   exact a
  ·rw [e,List.length_append]
   omega
theorem OwnM.at {h:aj} {N:Nat} {v:Value} {l:List MS} (O:OwnM h N v l) {i:Nat} {p:MS} (hp:l[i]? = some p) : ∃ pt,bB 116 v (aH i)=some pt∧Has h p.2 p.1 ∧ ∀ h',Old h h'→bD 116 pt h'=some (mv p.1 p.2,h'):=by
 have hi:=(List.getElem?_eq_some_iff.1 hp).1
 have hx:=O.has p (List.mem_of_getElem? hp)
 obtain ⟨e1,e2⟩:=cellsL_at l i p (fun q hq=>(cP (O.has q hq).sl (aO.ok (O.has q hq).wf)).2.2) hp
 obtain ⟨_,_,_,h4⟩:=O.own
 rcases h4 with ⟨_,h0⟩|⟨b,s,rfl,_,⟨_,h0⟩|⟨_,hg⟩⟩
 ·omega
 ·omega
 ·refine ⟨ptr b (i*116),?_,hx,fun h' o => ?_⟩
  ·unfold bB
   simp only []
   rw [if_pos (by omega),Int.toNat_natCast,Nat.zero_add]
  ·have:=ldN_at (n:=116) (o.get hg) (o:=i*116) e2 (by rw [e1];exact (cP hx.sl (aO.ok hx.wf)).1)
   rw [e1] at this
   exact this
section
variable {h:aj} {a:Option Addr} {c:Nat} {ms:List aO} {ct:Int} (hG:4≤h.n0) (V:MsgsV h (.slice a ms.length c) ms) (wf : ∀ m∈ms,m.Wf) (wc:(Lit.int .u16 ct).wf=true)
include hG V wf wc
end
end Go.Proofs.YtjghlcdidopcpaaGreatDoor

namespace Go.Proofs.YtjghlcdidopcpaaGreatDoor
open Go Go.Abs
attribute [local congr] aU
theorem is30:bO Tryz.prog 30 Tryz.f30:=⟨by kernel_rfl,by kernel_rfl,by kernel_rfl,by kernel_rfl⟩
theorem is10:bO Tryz.prog 10 Tryz.f10:=⟨by kernel_rfl,by kernel_rfl,by kernel_rfl,by kernel_rfl⟩
theorem results30:Tryz.f30.results.toList = [.tmp 2,.tmp 3,.tmp 4]:=by kernel_rfl
theorem b30_exit (C:au) (e:Env) (h:aj):b30_4 C 0 e h=k30_3 C e h:=rfl
theorem bslM0 (h:aj):bslR 116 (.agg Zl.toArray) 0 [] h=some (.slice (some ⟨h.next,0,none⟩) 0 0,h.alloc []):=rfl
def rsInv (h0:aj) (a:Option Addr) (n c:Nat) (l:List Nat) (k:Nat) (y:Nat→Value) (g:aj):Prop:=
 ∃ u pl,y 0 = .slice a n c∧y 6=aH u∧u≤l.length∧OwnM g h0.next (y 5) pl∧(pl = []→dm (y 5)=some h0.next)∧Old h0 g∧h0.next<g.next∧pl.length≤u∧k=l.length-u+1 ∧
   cI (l.length+1) l=(pl.map Prod.fst++(cI k (l.drop u)).1,u+(cI k (l.drop u)).2.1,(cI k (l.drop u)).2.2)
section
variable {h0:aj} {a:Option Addr} {n c:Nat} {l:List Nat} (hG:4≤h0.n0) (hz:GZ h0) (hl:ay a n h0=some l) (hg:10≤n→cn a n c=true) (hn:n≤1000000)
include hG hz hl hg hn
set_option maxRecDepth 100000 in
set_option maxHeartbeats 4000000 in
theorem rsRound : ∀ k y g,rsInv h0 a n c l k y g→dd 60 (rsInv h0 a n c l) (scFin h0 l) k (t30l30_11100 CW y g):=by
 rintro k y g ⟨u,pl,y0,y6,hu,O,nil5,K,hlt,hpl,hk,hs⟩
 have hlen:=(aw hl).1
 have hby:=(aw hl).2.1
 have hln:bG (.slice a n c)=some (aH n):=rfl
 have hg4:4≤g.n0:=by rw [K.n0];exact hG
 have sb:bin Tryz.prog .sub 3 (aH n) (aH u)=some (aH (n-u)):=sub3 (by omega) (by omega)
 have ge:bin Tryz.prog .geq 3 (aH (n-u)) (.int .i64 10)=some (.bool (decide (((n-u:Nat):Int)≥10))):=aE ..
 have hdl:(l.drop u).length=n-u:=by rw [List.length_drop,hlen]
 rw [hk,scan_succ (l.length-u) (l.drop u)] at hs
 unfold t30l30_11100
 by_cases c1:(l.drop u).length<10
 ·rw [if_pos c1] at hs
  rw [decide_eq_false (by omega)] at ge
  simp -implicitDefEqProofs only [y0, y6, hln, sb, ge, af, ak]
  refine dd.out 0 ⟨K,pl,by rw [hs];simp,by omega,.inr ⟨rfl,O,?_,by rw [hs]⟩⟩
  show y 6=_
  rw [y6,hs,Nat.add_zero]
 rw [if_neg c1] at hs
 rw [decide_eq_true (by omega)] at ge
 have hg:=hg (by omega)
 obtain ⟨a1,c1',z1,s1,g1⟩:=slR_from (c:=c) hg (Old.bytes K hl) (by omega:u≤n)
 have e2:=r37 (h:=g) hg4 (c:=c1') s1 (fun _=>g1) (by omega)
 by_cases c2:(cH (l.drop u)).2≠0
 ·rw [if_pos c2] at hs
  have q2:bin Tryz.prog .neq 35 (.int .i64 (cH (l.drop u)).2) (.int .i64 0)=some (.bool true):=by rw [ax];simpa using c2
  simp -implicitDefEqProofs only [y0, y6, hln, sb, ge, z1, e2, q2, af, ak, a8, a7]
  refine dd.ret ⟨K,pl,by rw [hs];simp,by omega,.inl ⟨rfl,O,?_,by rw [hs];rfl⟩⟩
  show aH u=_
  rw [hs,Nat.add_zero]
 rw [if_neg c2] at hs
 have c2':=Decidable.not_not.1 c2
 have hL:=lenE_ge c2'
 rw [c2'] at e2
 have q2:bin Tryz.prog .neq 35 (.int .i64 0) (.int .i64 0)=some (.bool false):=by rw [ax];rfl
 generalize (cH (l.drop u)).1=L at *
 have gt:bin Tryz.prog .lss 3 (aH (n-u)) (.int .i64 (L:Int))=some (.bool (decide (((n-u:Nat):Int)<(L:Int)))):=aC ..
 by_cases c3:(l.drop u).length<L
 ·rw [if_pos c3] at hs
  rw [decide_eq_true (by omega)] at gt
  simp -implicitDefEqProofs only [y0, y6, hln, sb, ge, z1, e2, q2, gt, af, ak, a8, a7]
  refine dd.ret ⟨K,pl,by rw [hs];simp,by omega,.inl ⟨rfl,O,?_,by rw [hs];rfl⟩⟩
  show aH u=_
  rw [hs,Nat.add_zero]
 rw [if_neg c3] at hs
 rw [decide_eq_false (by omega)] at gt
 have ad:bin Tryz.prog .add 3 (aH u) (.int .i64 (L:Int))=some (aH (u+L)):=add3 (by omega)
 obtain ⟨a3,c3',z3,s3,g3⟩:=slR_mid (c:=c) (lo:=u) (hi:=u+L) hg (Old.bytes K hl) (by omega) (by omega)
 rw [show u+L-u=L by omega] at z3 s3 g3
 obtain ⟨sl,h4,e4,x4,o4,f4⟩:=r14 (h:=g) hg4 (hz.bA K) (c:=c3') s3 (fun _=>g3) (by omega)
 have K4:=K.trans o4
 have z4:=newZ h4
 obtain ⟨h5,e5,o5,g5,n5⟩:=var_m x4
 have K5:=K4.trans o5
 by_cases c4:(decF ((l.drop u).take L)).2≠0
 ·rw [if_pos c4] at hs
  have q4:bin Tryz.prog .neq 35 (.int .i64 (decF ((l.drop u).take L)).2) (.int .i64 0)=some (.bool true):=by rw [ax];simpa using c4
  simp -implicitDefEqProofs only [y0, y6, hln, sb, ge, z1, e2, q2, gt, ad, z3, e4, z4, e5, q4, af, ak, a8, a7]
  refine dd.ret ⟨K5,pl,by rw [hs];simp,by omega,.inl ⟨rfl,O.bA (o4.trans o5),?_,by rw [hs];rfl⟩⟩
  show aH u=_
  rw [hs,Nat.add_zero]
 rw [if_neg c4] at hs
 have c4':=Decidable.not_not.1 c4
 rw [c4'] at e4
 have x5:=x4.bA o5
 have A5:=(m_ld x5 g5).all
 have c5:=cP x5.sl (aO.ok x5.wf)
 have z6:=bslZ (decF ((l.drop u).take L)).1 sl h5 c5.2.2 c5.2.1
 have O5:=O.bA (o4.trans o5)
 obtain ⟨v',h6,e6,O6,k6⟩:=app_msg (h:=h5) O5 x5 (fun w hw b hb e=>by
  have h1:=f4 w hw b hb
  rcases List.eq_nil_or_concat pl with rfl|⟨q,r,rfl⟩
  ·rw [nil5 rfl] at e
   cases e
   exact h1 hlt
  ·have:=O.own.base_lt e (by simp)
   omega) (by rw [K5.n0];exact h0.aK) K5.next (by omega)
 have K6:=k6 h0 rfl K5
 have n6:=K6.next
 have O6b:=fun (b:Nat) (hb:dm v'=some b)=>O6.own.base_lt hb
 simp -implicitDefEqProofs only [y0, y6, hln, sb, ge, z1, e2, q2, gt, ad, z3, e4, z4, e5, A5, z6, e6, af, ak, a8, a7]
 refine dd.next (l.length-(u+L)+1) (by omega) ⟨u+L,pl ++ [((decF ((l.drop u).take L)).1,sl)],y0,rfl,by omega,O6,(fun h=>absurd h (by simp)),K6,?_,by simp;omega,rfl,?_⟩
 ·obtain ⟨_,_,_,h4'⟩:=O6.own
  rcases h4' with ⟨_,h0'⟩|⟨cc,ss,hv,hc,_⟩
  ·simp at h0'
  ·have hb:dm v'=some cc:=by rw [hv];rfl
   have:=O6b cc hb (by simp)
   omega
 ·rw [hs,List.drop_drop,scan_more (l.length-u) _ (by rw [List.length_drop];omega),show (l.drop (u+L)).length+1=l.length-(u+L)+1 by rw [List.length_drop]]
  simp only [List.map_append,List.map_cons,List.map_nil,List.append_assoc,List.cons_append,List.nil_append,Nat.add_assoc]
set_option maxRecDepth 100000 in
theorem r30 : ∃ v pl h',CW 30 [.slice a n c] h0=some (.tuple #[v,aH (cI (l.length+1) l).2.1,.int .i64 (cI (l.length+1) l).2.2],h')∧Old h0 h'∧OwnM h' h0.next v pl∧pl.map Prod.fst=(cI (l.length+1) l).1:=by
 have hlen:=(aw hl).1
 have key : ∃ v pl h',t30 CW (.slice a n c) h0=some (.tuple #[v,aH (cI (l.length+1) l).2.1,.int .i64 (cI (l.length+1) l).2.2],h')∧Old h0 h'∧OwnM h' h0.next v pl∧pl.map Prod.fst=(cI (l.length+1) l).1:=by
  have o1:Old h0 (h0.alloc []):=Kept.alloc _ _ _
  unfold t30
  simp -implicitDefEqProofs only [af,bslM0]
  refine bY (Q:=fun o:Out => ∃ v pl h',o=some (Value.tuple #[v,aH (cI (l.length+1) l).2.1,.int .i64 (cI (l.length+1) l).2.2],h')∧Old h0 h'∧OwnM h' h0.next v pl∧pl.map Prod.fst=(cI (l.length+1) l).1)
   (bZ (t30l30_11100_eq CW) (rsRound (h0:=h0) (a:=a) (n:=n) (c:=c) (l:=l) hG hz hl hg hn) (l.length+1) (by have:rounds=18446744073709551616:=rfl;omega)
    ⟨0,[],rfl,rfl,Nat.zero_le _,⟨dJ.empty _ (Nat.le_refl _),fun p hp=>(by cases hp),fun p hp=>by cases hp⟩,fun _=>rfl,o1,by rw [aj.dw];omega,Nat.le_refl _,rfl,by simp⟩) ?_
  rintro ex y g ⟨K,pl,hp,_,F⟩
  rcases F with ⟨rfl,O,y3,y4⟩|⟨rfl,O,y6,e0⟩
  ·exact ⟨_,pl,g,by rw [dG,res_three results30 (by decide) (by decide) (by decide),y3,y4],K,O,hp⟩
  ·refine ⟨_,pl,g,?_,K,O,hp⟩
   rw [bE,b30_exit,t30k30_3_eq]
   unfold t30k30_3
   simp -implicitDefEqProofs only [af,y6,e0]
 obtain ⟨v,pl,h',e,r⟩:=key
 exact ⟨v,pl,h',aF is30 hG rfl ((t30_eq _ _ _).trans e),r⟩
end
theorem scan_small : ∀ (k:Nat) (l:List Nat),Bys l → ∀ m∈(cI k l).1,m.n.Small
 | 0,l,_,m,hm=>by cases hm
 |k+1,l,hb,m,hm=>by
  rw [scan_succ] at hm
  split at hm
  ·cases hm
  split at hm
  ·cases hm
  split at hm
  ·cases hm
  split at hm
  ·cases hm
  rcases List.mem_cons.1 hm with rfl|hm
  ·exact decF_small (hb.take _)
  ·exact scan_small k _ (hb.drop _) m hm
theorem b10_exit (C:au) (e:Env) (h:aj):b10_11 C 0 e h=k10_9 C e h:=rfl
def zInv (h0:aj) (v w:Value) (ms:List aO) (k:Nat) (y:Nat→Value) (g:aj):Prop:=
 ∃ i,i+k=ms.length∧y 3=v∧y 6=w∧y 9=aH i∧Old h0 g
def zFin (h0:aj) (ex:Ex) (_:Nat→Value) (g:aj):Prop:=ex = .exit 0∧Old h0 g
theorem zRound {h0:aj} {v w:Value} {N N':Nat} {ms:List aO} {pl ql:List MS} (hG:4≤h0.n0) (O:OwnM h0 N v pl) (O':OwnM h0 N' w ql) (hp:pl.map Prod.fst=ms) (hq:ql.map Prod.fst=ms) (hms:ms.length≤1000000) (sm : ∀ m∈ms,m.n.Small) :
  ∀ k y g,zInv h0 v w ms k y g→dd 60 (zInv h0 v w ms) (zFin h0) k (fE CW y g):=by
 rintro k y g ⟨i,hik,y3,y6,y9,K⟩
 have hln:=O.own.bG
 rw [show pl.length=ms.length by rw [←hp,List.length_map]] at hln
 unfold fE
 by_cases hi:i<ms.length
 ·obtain ⟨m,hm⟩ : ∃ m,ms[i]? = some m:=⟨ms[i],List.getElem?_eq_getElem hi⟩
  have hm1:=hm
  have hm2:=hm
  rw [←hp,List.getElem?_map] at hm1
  rw [←hq,List.getElem?_map] at hm2
  obtain ⟨p,hpp,e1⟩:=Option.map_eq_some_iff.1 hm1
  obtain ⟨r,hrr,e2⟩:=Option.map_eq_some_iff.1 hm2
  obtain ⟨pt,i1,X1,aN⟩:=O.at hpp
  obtain ⟨pk,i2,X2,ld2⟩:=O'.at hrr
  have b1:=aN g K
  have b2:=ld2 g K
  rw [e1] at X1 b1
  rw [e2] at X2 b2
  obtain ⟨g',e,o⟩:=r15m (h:=g) (by rw [K.n0];exact hG) (X1.bA K) (X2.bA K) (sm m (List.mem_of_getElem? hm))
  rw [decide_eq_true rfl] at e
  simp -implicitDefEqProofs only [y3, y6, y9, hln, dg, decide_eq_true hi, i1, i2, b1, b2, e, ee (show i+1≤9223372036854775807 by omega), af, ak, Bool.not_true, av]
  exact dd.next (k-1) (by omega) ⟨i+1,by omega,y3,y6,rfl,K.trans o⟩
 ·simp -implicitDefEqProofs only [y3, y9, hln, dg, decide_eq_false hi, af, ak]
  exact dd.out 0 ⟨rfl,K⟩
theorem loop10 {h0:aj} {v w:Value} {N N':Nat} {ms:List aO} {pl ql:List MS} {y:Nat→Value} (hG:4≤h0.n0) (O:OwnM h0 N v pl) (O':OwnM h0 N' w ql) (hp:pl.map Prod.fst=ms) (hq:ql.map Prod.fst=ms) (hms:ms.length≤1000000) (sm : ∀ m∈ms,m.n.Small) (y3:y 3=v) (y6:y 6=w) (y9:y 9 = .int .i64 0) :
  ∃ h',dX (iter (aM Tryz.prog CW (partOf Tryz.f10 [1,1,1,1,1,0,1,0,0])) rounds (aJ 60 y) h0) (ar Tryz.prog Tryz.f10.results.toList) (b10_11 CW)=some (.bool true,h'):=by
 refine bY (Q:=fun o:Out => ∃ h',o=some (Value.bool true,h')) (bZ (t10l10_11111010_eq CW) (zRound hG O O' hp hq hms sm) ms.length (by have:rounds=18446744073709551616:=rfl;omega) ⟨0,Nat.zero_add _,y3,y6,y9,Kept.refl _ _⟩) ?_
 rintro ex w g ⟨rfl,K⟩
 rw [bE,b10_exit,t10k10_9_eq]
 unfold t10k10_9
 exact ⟨g,by simp -implicitDefEqProofs only [r12,af]⟩
theorem scan_len : ∀ (k:Nat) (l:List Nat),14*(cI k l).1.length≤l.length
 | 0,l=>Nat.zero_le _
 |k+1,l=>by
  rw [scan_succ]
  split
  ·exact Nat.zero_le _
  split
  ·exact Nat.zero_le _
  split
  ·exact Nat.zero_le _
  split
  ·exact Nat.zero_le _
  rename_i c1 c2 c3 c4
  have hL:=lenE_ge (Decidable.not_not.1 c2)
  have ih:=scan_len k (l.drop (cH l).1)
  rw [List.length_drop] at ih
  rw [List.length_cons]
  omega
section
variable {h:aj} {a:Option Addr} {n c:Nat} {l:List Nat} (hG:4≤h.n0) (hz:GZ h) (hl:ay a n h=some l) (hg:10≤n→cn a n c=true)
include hG hz hl hg
set_option maxRecDepth 100000 in
theorem dev10 : ∃ h',CW 10 [.slice a n c] h=some (.bool true,h'):=by
 have key : ∃ h',t10 CW (.slice a n c) h=some (.bool true,h'):=by
  obtain ⟨hlen,hby,_⟩:=aw hl
  have hln:bG (.slice a n c)=some (aH n):=rfl
  have hgt:bin Tryz.prog .gtr 3 (aH n) (.int .i64 40000)=some (.bool (decide (40000<n))):=gtr3 n 40000
  by_cases hn:40000<n
  ·rw [decide_eq_true hn] at hgt
   exact ⟨h,by unfold t10;simp -implicitDefEqProofs only [hln, hgt, r12, af, ak]⟩
  rw [decide_eq_false hn] at hgt
  obtain ⟨a1,c1,h1,e1,s1,g1,o1,f1⟩:=app_copy (c:=c) hl (by omega)
  obtain ⟨v,pl,h2,e2,o2,M2,p2⟩:=q29 (h:=h1) (by rw [o1.n0];exact hG) (c:=c1) s1 g1 (by omega)
  have O2:=o1.trans o2
  obtain ⟨w,ql,h4,e4,o4,M4,p4⟩:=r30 (h0:=h2) (by rw [O2.n0];exact hG) (hz.bA O2) (c:=c) (Old.bytes O2 hl) hg (by omega)
  have O4:=O2.trans o4
  have M2':=M2.bA o4
  have sm:=scan_small (l.length+1) l hby
  have sl:=scan_len (l.length+1) l
  generalize cI (l.length+1) l=r at *
  have n2:=M2'.own.bG
  have n4:=M4.own.bG
  rw [show pl.length=r.1.length by rw [←p2,List.length_map]] at n2
  rw [show ql.length=r.1.length by rw [←p4,List.length_map]] at n4
  have q1:bin Tryz.prog .neq 3 (aH r.2.1) (aH r.2.1)=some (.bool false):=by rw [neq3,decide_eq_true rfl];rfl
  have q2:bin Tryz.prog .neq 35 (.int .i64 r.2.2) (.int .i64 r.2.2)=some (.bool false):=by rw [ax];simp
  have q3:bin Tryz.prog .neq 3 (aH r.1.length) (aH r.1.length)=some (.bool false):=by rw [neq3,decide_eq_true rfl];rfl
  unfold t10
  simp -implicitDefEqProofs only [hln, hgt, bslB, e1, e2, e4, q1, q2, n2, n4, q3, af, ak, ao, beq_self_eq_true, ai, Bool.false_eq_true, if_false, ext2, ext30, ext31]
  exact loop10 (by rw [O4.n0];exact hG) M2' M4 p2 p4 (by omega) sm rfl rfl rfl
 obtain ⟨h',e⟩:=key
 exact ⟨h',aF is10 hG rfl ((t10_eq _ _ _).trans e)⟩
end
end Go.Proofs.YtjghlcdidopcpaaGreatDoor

