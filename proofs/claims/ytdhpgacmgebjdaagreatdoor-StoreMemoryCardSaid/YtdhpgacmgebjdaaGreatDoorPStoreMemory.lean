/-
  StoreMemory returns true at all inputs, and leaves its arguments; the card ties the listed tables to the program's text.
  Conditions: none beyond the given statement's.
-/
import Derived.Test.YtdhpgacmgebjdaaGreatDoorG30
import Derived.Test.YtdhpgacmgebjdaaGreatDoorRows
import Derived.Test.YtdhpgacmgebjdaaGreatDoorTie
import Derived.Test.YtdhpgacmgebjdaaGreatDoorCards
import Derived.ProofKit
import Derived.LaidLaws
import Derived.LaidHandle
import Derived.SevenTiedAt
set_option linter.all false
namespace Go.Proofs.YtdhpgacmgebjdaaGreatDoor
open Go Go.Abs
open Go.ChangeShapes Go.WideShapes Go.ChangeAt Go.RowKit
open W (tP mem_call memS yN)
noncomputable section
theorem Tryz.own:ownKnob Tryz.prog.godebug=none:=by kernel_rfl
theorem Tryz.laidOut:laidOutB Tryz.prog=true:=by kernel_rfl
def cellsOfD:DataW Unit→Array Value
 | .agg l=>(l.map fun d=>match d with | .lit x=>x.value|_=>undef).toArray
 |_ => #[]
noncomputable def Be (os:Os):World:=
 let w0:=World.holding Tryz.prog os ⟨#[],#[],[]⟩
 let lay (g:Nat) (d:DataW Unit) (h:Array Obj):Array Obj:=h.modify g fun
  | .cells _ t frozen => .cells (cellsOfD d) t frozen
  |o=>o
 { w0 with heap:=lay 1 Rows.laid_stolon_digest_rounds w0.heap }
theorem laid_met (os:Os) (args:Array Value):laidMet Tryz.prog Rows.storeMemoryRow.laid ((Be os).forCall (fun _ _=>0) ⟨#[],args,[]⟩).memory:=
 laidMet_of_run' 8 (by kernel_rfl) (by kernel_rfl)
theorem gz_of {W:World} (h:laidMet Tryz.prog Rows.storeMemoryRow.laid W):(fy W (view W)).get 1=some cP:=by
 obtain ⟨ps,hl,_,_⟩:=h
 obtain ⟨g,t,cs,fuel,p,q,hg,ht,hv,htr,_,_⟩:=hl
 have hg0 : Tryz.prog.globalNamed "stolon/digest.rounds" = some 1 := by kernel_rfl
 rw [hg0] at hg
 obtain rfl:=Option.some.inj hg
 have ht0:(Tryz.prog.globals[1]?).map (·.type)=some 316:=by kernel_rfl
 rw [ht0] at ht
 obtain rfl:=Option.some.inj ht
 unfold World.var? at hv
 rw [hg0] at hv
 have hv:(match W.heap[1]? with|some (Obj.cells c _ _)=>some c|_=>none)=some cs:=hv
 have hc:=Db (by kernel_rfl) htr
 rw [xn]
 unfold view
 split at hv
 ·rename_i c T fr hw
  cases hv
  rw [hw]
  show some (List.map _ _)=_
  rw [hc,Dg]
 ·cases hv
theorem call_data' {P : Program} {f : FuncId} {s : List Value → ae → aY} (K : bU P f s) {fn : Func} (hfn : P.funcs[f]? = some fn) (hnm : (fn.name == "runtime.NumGoroutine") = false) (hbn : fn.body.isNone = false) (args args' : List Value) (W : World) (hg : P.globals.size ≤ W.heap.size) (hr : aT (mm W) args args') (hb : cT W.heap.size args = true)
  (v:Value) (hv:flat v=true) (hs : ∃ h',s args (fy W (view W))=some (v,h')):Calls P f args'.toArray W fun e W'=>e = .returned v∧Below W.heap.size W W':=by
 obtain ⟨h',hs⟩:=hs
 have hno : ∀ B,¬Go.Abs.Ci (mm W) (fy W (view W)) B:=by
  rintro B ⟨b,k,L,hb,hk,_⟩
  rw [jR W _ hb] at hk;cases hk
 refine ((K.run args _ v h' hs hb (view_bd W) hg (mm W) W args' (view_sim W) ?_ hr).fE hfn hnm hbn).mono ?_
 ·intro b hb _
  have : ¬b<W.heap.size:=Nat.not_lt.2 hb
  unfold mm;rw [if_neg this]
 ·rintro e W' ⟨μ',v',rfl,S,St,hv'⟩
  rw [hv'.bG hv]
  exact ⟨rfl,St.below fun B _=>hno B⟩
theorem agg_rel {W:World} {a:Array Value} {l:List Value} (h:a.toList.map (clean W.heap.size)=l) (hn:Abs.noHoles l=true):aF (mm W) (.agg l.toArray) (.agg a):=by
 subst h
 refine .agg (by simp) fun i x y hx hy => ?_
 rw [List.getElem?_toArray,List.getElem?_map,Array.getElem?_toList,hy] at hx
 cases hx
 refine vf ?_
 unfold Abs.noHoles at hn
 rw [List.all_eq_true] at hn
 have:=hn _ (List.mem_map.2 ⟨y,by rw [Array.mem_toList_iff];exact Array.mem_of_getElem? hy,rfl⟩)
 simpa using this
theorem agg_bd {W:World} {a:Array Value} {l:List Value} (h:a.toList.map (clean W.heap.size)=l) (h0:0<W.heap.size):b9 W.heap.size (.agg l.toArray)=true:=by
 show cT W.heap.size l=true
 subst h
 rw [eX]
 intro x hx
 obtain ⟨y,_,rfl⟩:=List.mem_map.1 hx
 exact yD h0
set_option maxRecDepth 100000 in
theorem slice_cells {W:World} {cK:Nat} {t e:TypeId} {v:Value} (ht:Tryz.prog.underlying t=some (.slice e)) (h:Value.okWide Tryz.prog W .any cK t v):v.cells.toList = [v]:=by
 unfold Value.okWide at h
 rw [ht] at h
 unfold Cell.okWide at h
 rw [ht] at h
 simp only at h
 unfold Cell.ok at h
 rw [ht] at h
 cases v with
 |slice a l c=>rfl
 |_=>simp at h
set_option maxRecDepth 100000 in
theorem bool_cells {W:World} {cK:Nat} {v:Value} (h:Value.okWide Tryz.prog W .any cK 4 v):v.cells.toList = [v]:=by
 unfold Value.okWide at h
 rw [Tryz.underlying4] at h
 unfold Cell.okWide at h
 rw [Tryz.underlying4] at h
 simp only at h
 unfold Cell.ok at h
 rw [Tryz.underlying4] at h
 cases v with
 |bool a=>rfl
 |_=>simp at h
set_option maxRecDepth 100000 in
theorem se (os:Os) (started:os.Started) (H:Type) (enc:TypeId×Value→H) :
  ReturnsInHanded {} Tryz.checked os 3 .any (fun w args=>(Rows.storeMemorySpec.pre enc Tryz.prog Tryz.f3 [] false w args∧laidMetH Tryz.prog Rows.storeMemoryRow.laid w)∧sizedMet enc Tryz.prog Tryz.f3 (OpenSpec.ofChange Rows.storeMemorySpec) false w args)
   (Rows.storeMemorySpec.post enc Tryz.prog Tryz.f3 false true false false):=by
 refine Dc (C:=Tryz.checked) rfl (X:=fun w _=>laidMetH Tryz.prog Rows.storeMemoryRow.laid w) (fun _ _ _ _ _ h=>ChangeSpec.post_blind h) (fun _ _ _ hh h=>h.of_heap hh) Tryz.own started (by kernel_rfl) Tryz.func3
  (ChangeSpec.witness_at (enc:=enc) (C:=Tryz.checked) (os:=os) (X:=fun w _=>laidMetH Tryz.prog Rows.storeMemoryRow.laid w) false (Be os) #[.slice none 0 0,.bool false] 8 rfl (by kernel_rfl) (by kernel_rfl) (by kernel_rfl) (by kernel_rfl) (by kernel_rfl) (laid_met os _)) ?_
 intro W cK args ds gs before hsz3 hval0 hW hL
 have hsz:Tryz.prog.globals.size≤W.heap.size:=by rw [iv];exact hsz3
 have hval : ∀ (j:Nat) t v,Tryz.f3.params[j]? = some t→args[j]? = some v→Value.okWide Tryz.prog W .any cK t v:=hval0
 have hW':=hW
 have hlt:=fun p hp=>hW.lt p hp
 obtain ⟨p,q,hA0,hV,rfl,hfz,hnd⟩:=hW
 have hA:DataW.TrodAll enc Tryz.prog W 0 (fun _=>true) true Tryz.f3.params.toList args.toList ds p:=hA0
 rw [Tryz.params3] at hA hval
 obtain ⟨v0,v1,d0,d1,p0,p1,rfl,rfl,rfl,h0,h1⟩:=trodAll_two hA
 obtain ⟨rfl,rfl⟩:=trodVars_none hV
 have hp:0<W.heap.size:=by omega
 have hc0:=slice_cells Tryz.underlying22 (hval 0 22 v0 rfl rfl)
 have hc1:=bool_cells (hval 1 4 v1 rfl rfl)
 clear hA0 hval0
 simp only [List.append_nil] at hW'
 obtain ⟨fu0,hf0⟩:=h0
 have hf0':=hf0
 rw [hc0] at hf0'
 obtain ⟨fu1,hf1⟩:=h1
 rw [hc1] at hf1
 obtain ⟨b1,e1,e1x⟩:=DataW.trod_bool Tryz.underlying4 hf1
 simp only [List.cons.injEq,and_true] at e1
 simp only [Prod.mk.injEq] at e1x
 obtain rfl:=e1
 obtain ⟨rfl,rfl⟩:=e1x
 obtain ⟨hh0,l0,x0⟩:=yN hf0'
 have q0r:=vf (W:=W) hh0
 have q0b:=yD (v:=v0) hp
 have hz:=gz_of (show laidMet Tryz.prog Rows.storeMemoryRow.laid W from hL)
 refine (call_data' tP Tryz.func3 (by kernel_rfl) (by kernel_rfl) [clean W.heap.size v0,.bool b1] [v0,.bool b1] W hsz (aT.cons q0r (aT.cons (.flat rfl) (aT.nil _)))
  (by simp only [cT,q0b,je (n:=W.heap.size) (v := .bool b1) rfl,Bool.and_self]) (.bool true) rfl (mem_call (h:=fy W (view W)) hsz3 hz x0 b1)).mono fun e W' ⟨he,hbelow⟩ => ?_
 have k0:=Below.trod Tryz.laidOut (by kernel_rfl) (of_decide_eq_true (by kernel_rfl)) (⟨fu0,hf0⟩:DataW.Trod enc Tryz.prog W 0 (fun _=>true) true 22 v0 d0 p0) hbelow (fun x hx=>hlt x (by simp [hx]))
 exact ⟨_,he,_,_,_,[],_,[],hW',trodAll_mk1 (shut_bool Tryz.underlying4 true),trodAll_mk2 k0 (shut_bool Tryz.underlying4 b1),rfl,hbelow.frame _,fun h=>by cases h⟩
set_option maxRecDepth 100000 in
theorem vS:Rows.StoreMemorySaid:=
 OpenClaim.holds_of_wide 3 Tryz.f3 rfl rfl rfl rfl rfl rfl rfl ⟨rfl,rfl,rfl,rfl,rfl⟩ rfl rfl rfl rfl rfl (by as_aux_lemma=>kernel_rfl) Tryz.func3 tO
  (of_decide_eq_true (by kernel_rfl)) (by unfold Func.isWrapper;rw [if_neg (of_decide_eq_false (by kernel_rfl))];exact ⟨rfl,rfl⟩)
  (fun os started H enc _=>se os started H enc)
set_option maxRecDepth 100000 in
theorem storeMemory_holds:Rows.StoreMemoryCardSaid:=
 Claim7.holds_tied_plain_at .later [] [.data] true (true, "b7b752e8c9a5e777f4f00378967cb2b66c69ea28f80c9c613c3d360cc41a4a50") true
  vS (fun _ h=>by cases h) (by kernel_rfl) (fun _ h=>by cases h) storeMemory_row_tie rfl ⟨rfl,rfl⟩ (by kernel_rfl) rfl
  (fun f fn hf hfn=>by
   obtain rfl : f = 3 := Option.some.inj ((show Tryz.prog.funcNamed "stolon/stolonlaw04.StoreMemory" = some 3 by kernel_rfl).symm.trans hf) |>.symm
   obtain rfl:fn=Tryz.f3:=(Option.some.inj (Tryz.func3.symm.trans hfn)).symm
   exact ⟨by kernel_rfl,fun j t ht=>by
    rw [Tryz.params3] at ht
    have h3:t=22∨t=4:=by
     rcases j with _|_|j
     ·exact .inl (by simpa using ht.symm)
     ·exact .inr (by simpa using ht.symm)
     ·simp at ht
    rcases h3 with rfl|rfl
    ·exact (show Tryz.prog.wantsStandIn 22=false by kernel_rfl)
    ·exact (show Tryz.prog.wantsStandIn 4=false by kernel_rfl)⟩)
  (goes_by no_goes rfl)
end
end Go.Proofs.YtdhpgacmgebjdaaGreatDoor
