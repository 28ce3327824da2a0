/-
  StoreSound returns true at all inputs, and leaves its arguments; the card ties the listed tables to the program's text.
  Conditions: none beyond the given statement's.
-/
import Derived.Test.YtdhpgacmgebjdaaGreatDoorG30
import Derived.Test.YtdhpgacmgebjdaaGreatDoorRows
import Derived.Test.YtdhpgacmgebjdaaGreatDoorTie
import Derived.Test.YtdhpgacmgebjdaaGreatDoorCards
import Derived.ProofKit
import Derived.LaidLaws
import Derived.LaidHandle
import Derived.SevenTiedAt
set_option linter.all false
namespace Go.Proofs.YtdhpgacmgebjdaaGreatDoor
open Go Go.Abs
open Go.ChangeShapes Go.WideShapes Go.ChangeAt Go.RowKit
open W (oE x7 soundS yb ops_of)
noncomputable section
theorem Tryz.own:ownKnob Tryz.prog.godebug=none:=by kernel_rfl
theorem Tryz.laidOut:laidOutB Tryz.prog=true:=by kernel_rfl
def cellsOfD:DataW Unit→Array Value
 | .agg l=>(l.map fun d=>match d with | .lit x=>x.value|_=>undef).toArray
 |_ => #[]
noncomputable def Bf (os:Os):World:=
 let w0:=World.holding Tryz.prog os ⟨#[],#[],[]⟩
 let lay (g:Nat) (d:DataW Unit) (h:Array Obj):Array Obj:=h.modify g fun
  | .cells _ t frozen => .cells (cellsOfD d) t frozen
  |o=>o
 { w0 with heap:=lay 1 Rows.laid_stolon_digest_rounds w0.heap }
theorem laid_met (os:Os) (args:Array Value):laidMet Tryz.prog Rows.storeSoundRow.laid ((Bf os).forCall (fun _ _=>0) ⟨#[],args,[]⟩).memory:=
 laidMet_of_run' 8 (by kernel_rfl) (by kernel_rfl)
theorem gz_of {W:World} (h:laidMet Tryz.prog Rows.storeSoundRow.laid W):(dO W (view W)).get 1=some cH:=by
 obtain ⟨ps,hl,_,_⟩:=h
 obtain ⟨g,t,cs,fuel,p,q,hg,ht,hv,htr,_,_⟩:=hl
 have hg0 : Tryz.prog.globalNamed "stolon/digest.rounds" = some 1 := by kernel_rfl
 rw [hg0] at hg
 obtain rfl:=Option.some.inj hg
 have ht0:(Tryz.prog.globals[1]?).map (·.type)=some 316:=by kernel_rfl
 rw [ht0] at ht
 obtain rfl:=Option.some.inj ht
 unfold World.var? at hv
 rw [hg0] at hv
 have hv:(match W.heap[1]? with|some (Obj.cells c _ _)=>some c|_=>none)=some cs:=hv
 have hc:=CW (by kernel_rfl) htr
 rw [tN]
 unfold view
 split at hv
 ·rename_i c T fr hw
  cases hv
  rw [hw]
  show some (List.map _ _)=_
  rw [hc,BV]
 ·cases hv
theorem call_data' {P : Program} {f : FuncId} {s : List Value → ae → ba} (K : bq P f s) {fn : Func} (hfn : P.funcs[f]? = some fn) (hnm : (fn.name == "runtime.NumGoroutine") = false) (hbn : fn.body.isNone = false) (args args' : List Value) (W : World) (hg : P.globals.size ≤ W.heap.size) (hr : aU (iE W) args args') (hb : cy W.heap.size args = true)
  (v:Value) (hv:flat v=true) (hs : ∃ h',s args (dO W (view W))=some (v,h')):Calls P f args'.toArray W fun e W'=>e = .returned v∧Below W.heap.size W W':=by
 obtain ⟨h',hs⟩:=hs
 have hno : ∀ B,¬Go.Abs.AA (iE W) (dO W (view W)) B:=by
  rintro B ⟨b,k,L,hb,hk,_⟩
  rw [iw W _ hb] at hk;cases hk
 refine ((K.run args _ v h' hs hb (view_bd W) hg (iE W) W args' (view_sim W) ?_ hr).fe hfn hnm hbn).mono ?_
 ·intro b hb _
  have : ¬b<W.heap.size:=Nat.not_lt.2 hb
  unfold iE;rw [if_neg this]
 ·rintro e W' ⟨μ',v',rfl,S,St,hv'⟩
  rw [hv'.bG hv]
  exact ⟨rfl,St.below fun B _=>hno B⟩
theorem agg_rel {W:World} {a:Array Value} {l:List Value} (h:a.toList.map (clean W.heap.size)=l) (hn:Abs.noHoles l=true):aD (iE W) (.agg l.toArray) (.agg a):=by
 subst h
 refine .agg (by simp) fun i x y hx hy => ?_
 rw [List.getElem?_toArray,List.getElem?_map,Array.getElem?_toList,hy] at hx
 cases hx
 refine qv ?_
 unfold Abs.noHoles at hn
 rw [List.all_eq_true] at hn
 have:=hn _ (List.mem_map.2 ⟨y,by rw [Array.mem_toList_iff];exact Array.mem_of_getElem? hy,rfl⟩)
 simpa using this
theorem agg_bd {W:World} {a:Array Value} {l:List Value} (h:a.toList.map (clean W.heap.size)=l) (h0:0<W.heap.size):bR W.heap.size (.agg l.toArray)=true:=by
 show cy W.heap.size l=true
 subst h
 rw [dM]
 intro x hx
 obtain ⟨y,_,rfl⟩:=List.mem_map.1 hx
 exact tV h0
set_option maxRecDepth 100000 in
theorem ve {W:World} {base:Nat} {t e:TypeId} {v:Value} (ht:Tryz.prog.underlying t=some (.slice e)) (h:Value.okWide Tryz.prog W .any base t v):v.cells.toList = [v]:=by
 unfold Value.okWide at h
 rw [ht] at h
 unfold Cell.okWide at h
 rw [ht] at h
 simp only at h
 unfold Cell.ok at h
 rw [ht] at h
 cases v with
 |slice a l c=>rfl
 |_=>simp at h
set_option maxRecDepth 100000 in
theorem tZ (os:Os) (started:os.Started) (H:Type) (enc:TypeId×Value→H) :
  ReturnsInHanded {} Tryz.checked os 4 .any (fun w args=>(Rows.storeSoundSpec.pre enc Tryz.prog Tryz.f4 [] false w args∧laidMetH Tryz.prog Rows.storeSoundRow.laid w)∧sizedMet enc Tryz.prog Tryz.f4 (OpenSpec.ofChange Rows.storeSoundSpec) false w args)
   (Rows.storeSoundSpec.post enc Tryz.prog Tryz.f4 false true false false):=by
 refine De (C:=Tryz.checked) rfl (X:=fun w _=>laidMetH Tryz.prog Rows.storeSoundRow.laid w) (fun _ _ _ _ _ h=>ChangeSpec.post_blind h) (fun _ _ _ hh h=>h.of_heap hh) Tryz.own started (by kernel_rfl) Tryz.func4
  (ChangeSpec.witness_at (enc:=enc) (C:=Tryz.checked) (os:=os) (X:=fun w _=>laidMetH Tryz.prog Rows.storeSoundRow.laid w) false (Bf os) #[.slice none 0 0,.int .i64 0,.slice none 0 0] 8 rfl (by kernel_rfl) (by kernel_rfl) (by kernel_rfl) (by kernel_rfl) (by kernel_rfl) (laid_met os _)) ?_
 intro W base args ds gs before hsz3 hval0 hW hL
 have hsz:Tryz.prog.globals.size≤W.heap.size:=by rw [cX];exact hsz3
 have hval : ∀ (j:Nat) t v,Tryz.f4.params[j]? = some t→args[j]? = some v→Value.okWide Tryz.prog W .any base t v:=hval0
 have hW':=hW
 have hlt:=fun p hp=>hW.lt p hp
 obtain ⟨p,q,hA0,hV,rfl,hfz,hnd⟩:=hW
 have hA:DataW.TrodAll enc Tryz.prog W 0 (fun _=>true) true Tryz.f4.params.toList args.toList ds p:=hA0
 rw [Tryz.params4] at hA hval
 obtain ⟨v0,v1,v2,d0,d1,d2,p0,p1,p2,rfl,rfl,rfl,h0,h1,h2⟩:=trodAll_three hA
 obtain ⟨rfl,rfl⟩:=trodVars_none hV
 have hp:0<W.heap.size:=by omega
 have hc0:=ve Tryz.underlying22 (hval 0 22 v0 rfl rfl)
 obtain ⟨i1,rfl,rfl,rfl,wf1⟩:=open_int Tryz.underlying3 (hval 1 3 v1 rfl rfl) h1
 have hc2:=ve Tryz.underlying49 (hval 2 49 v2 rfl rfl)
 clear hA0 hval0
 simp only [List.append_nil] at hW'
 obtain ⟨fu0,hf0⟩:=h0
 have hf0':=hf0
 rw [hc0] at hf0'
 obtain ⟨fu2,hf2⟩:=h2
 have hf2':=hf2
 rw [hc2] at hf2'
 obtain ⟨hh0,l0,x0⟩:=yb hf0'
 obtain ⟨hh2,n2,x2⟩:=ops_of hf2'
 have q0r:=qv (W:=W) hh0
 have q0b:=tV (v:=v0) hp
 have q2r:=qv (W:=W) hh2
 have q2b:=tV (v:=v2) hp
 have hz:=gz_of (show laidMet Tryz.prog Rows.storeSoundRow.laid W from hL)
 refine (call_data' oE Tryz.func4 (by kernel_rfl) (by kernel_rfl) [clean W.heap.size v0,.int .i64 i1,clean W.heap.size v2] [v0,.int .i64 i1,v2] W hsz (aU.cons q0r (aU.cons (.flat rfl) (aU.cons q2r (aU.nil _))))
  (by simp only [cy,q0b,q2b,iP (n:=W.heap.size) (v := .int .i64 i1) rfl,Bool.and_self]) (.bool true) rfl (x7 (h:=dO W (view W)) hsz3 hz x0 i1 x2)).mono fun e W' ⟨he,hbelow⟩ => ?_
 have k0:=Below.trod Tryz.laidOut (by kernel_rfl) (of_decide_eq_true (by kernel_rfl)) (⟨fu0,hf0⟩:DataW.Trod enc Tryz.prog W 0 (fun _=>true) true 22 v0 d0 p0) hbelow (fun x hx=>hlt x (by simp [hx]))
 have k2:=Below.trod Tryz.laidOut (by kernel_rfl) (of_decide_eq_true (by kernel_rfl)) (⟨fu2,hf2⟩:DataW.Trod enc Tryz.prog W 0 (fun _=>true) true 49 v2 d2 p2) hbelow (fun x hx=>hlt x (by simp [hx]))
 exact ⟨_,he,_,_,_,[],_,[],hW',trodAll_mk1 (shut_bool Tryz.underlying4 true),trodAll_mk3 k0 (shut_int Tryz.underlying3 wf1) k2,rfl,hbelow.frame _,fun h=>by cases h⟩
set_option maxRecDepth 100000 in
theorem xV:Rows.StoreSoundSaid:=
 OpenClaim.holds_of_wide 4 Tryz.f4 rfl rfl rfl rfl rfl rfl rfl ⟨rfl,rfl,rfl,rfl,rfl⟩ rfl rfl rfl rfl rfl (by as_aux_lemma=>kernel_rfl) Tryz.func4 uS
  (of_decide_eq_true (by kernel_rfl)) (by unfold Func.isWrapper;rw [if_neg (of_decide_eq_false (by kernel_rfl))];exact ⟨rfl,rfl⟩)
  (fun os started H enc _=>tZ os started H enc)
set_option maxRecDepth 100000 in
theorem storeSound_holds:Rows.StoreSoundCardSaid:=
 Claim7.holds_tied_plain_at .later [] [.data] true (true, "b7b752e8c9a5e777f4f00378967cb2b66c69ea28f80c9c613c3d360cc41a4a50") true
  xV (fun _ h=>by cases h) (by kernel_rfl) (fun _ h=>by cases h) storeSound_row_tie rfl ⟨rfl,rfl⟩ (by kernel_rfl) rfl
  (fun f fn hf hfn=>by
   obtain rfl : f = 4 := Option.some.inj ((show Tryz.prog.funcNamed "stolon/stolonlaw04.StoreSound" = some 4 by kernel_rfl).symm.trans hf) |>.symm
   obtain rfl:fn=Tryz.f4:=(Option.some.inj (Tryz.func4.symm.trans hfn)).symm
   exact ⟨by kernel_rfl,fun j t ht=>by
    rw [Tryz.params4] at ht
    have h3:t=22∨t=3∨t=49:=by
     rcases j with _|_|_|j
     ·exact .inl (by simpa using ht.symm)
     ·exact .inr (.inl (by simpa using ht.symm))
     ·exact .inr (.inr (by simpa using ht.symm))
     ·simp at ht
    rcases h3 with rfl|rfl|rfl
    ·exact (show Tryz.prog.wantsStandIn 22=false by kernel_rfl)
    ·exact (show Tryz.prog.wantsStandIn 3=false by kernel_rfl)
    ·exact (show Tryz.prog.wantsStandIn 49=false by kernel_rfl)⟩)
  (goes_by no_goes rfl)
end
end Go.Proofs.YtdhpgacmgebjdaaGreatDoor
