/-
  InventoryRanges returns true at all inputs, and leaves its arguments; the card ties the listed tables to the program's text.
  Conditions: none beyond the given statement's.
-/
import Derived.Test.YtdnahgfgoajmcaaDoorG19
import Derived.Test.YtdnahgfgoajmcaaDoorRows
import Derived.Test.YtdnahgfgoajmcaaDoorTie
import Derived.Test.YtdnahgfgoajmcaaDoorCards
import Derived.ProofKit
import Derived.LaidLaws
import Derived.LaidHandle
import Derived.SevenTiedAt
namespace Go.Proofs.YtdnahgfgoajmcaaDoor
open Go Go.Abs
open Go.ChangeShapes Go.WideShapes Go.ChangeAt Go.RowKit
theorem Tryd.own:ownKnob Tryd.prog.godebug=none:=by kernel_rfl
theorem Tryd.laidOut:laidOutB Tryd.prog=true:=by kernel_rfl
def cellsOfD:DataW Unit→Array Value
 | .agg l=>(l.map fun d=>match d with | .lit x=>x.value|_=>undef).toArray
 |_ => #[]
noncomputable def laidWorld (os:Os):World:=
 let w0:=World.holding Tryd.prog os ⟨#[],#[],[]⟩
 let lay (g:Nat) (d:DataW Unit) (h:Array Obj):Array Obj:=h.modify g fun
  | .cells _ t frozen => .cells (cellsOfD d) t frozen
  |o=>o
 { w0 with heap:=lay 0 Rows.laid_stolon_stolonref06_zero (lay 3 Rows.laid_stolon_digest_rounds (lay 1 Rows.laid_stolon_stolonref02_rounds w0.heap)) }
theorem laid_met (os:Os) (args:Array Value):laidMet Tryd.prog Rows.inventoryRangesRow.laid ((laidWorld os).forCall (fun _ _=>0) ⟨#[],args,[]⟩).memory:=
 laidMet_of_run' 8 (by kernel_rfl) (by kernel_rfl)
theorem size_of_laid {W:World} (h:laidMet Tryd.prog Rows.inventoryRangesRow.laid W):Tryd.prog.globals.size≤W.heap.size:=by
 obtain ⟨ps,hl,_,_⟩:=h
 obtain ⟨_,_,_,_,_,_,_,_,_,_,hl,_⟩:=hl
 obtain ⟨g,_,cs,_,_,_,hg,_,hv,_⟩:=hl
 have hg3 : Tryd.prog.globalNamed "stolon/digest.rounds" = some 3 := by kernel_rfl
 unfold World.var? at hv
 rw [hg3] at hv
 have hv:(match W.heap[3]? with|some (Obj.cells c _ _)=>some c|_=>none)=some cs:=hv
 have h3:3<W.heap.size:=by
  rcases Nat.lt_or_ge 3 W.heap.size with h|h
  ·exact h
  ·rw [Array.getElem?_eq_none h] at hv;cases hv
 have hsz:Tryd.prog.globals.size=4:=by kernel_rfl
 omega
theorem zero_cells {W:World} {fuel:Nat} {cs:List Value} {p:List MemPlace} (h:DataW.trod (fun _=>()) Tryd.prog W 0 (fun _=>true) false fuel 35 cs=some (Rows.laid_stolon_stolonref06_zero,p)):cs=aV z32:=by
 obtain ⟨xs,m,rfl,hx,hl,hxl,hf⟩:=DataW.trod_array Tryd.underlying35 h
 have h28:Tryd.prog.cellsOf 35=32:=by kernel_rfl
 have h5:Tryd.prog.cellsOf 5=1:=by kernel_rfl
 rw [h28] at hl
 have hx:=congrArg Prod.fst hx
 have hz:(Rows.laid_stolon_stolonref06_zero:DataW Unit) = .agg (List.replicate 32 (.lit (.int .u8 0))):=rfl
 have hx:(Rows.laid_stolon_stolonref06_zero:DataW Unit) = .agg (xs.map (·.1)):=hx
 rw [hz] at hx
 have hx:=DataW.agg.inj hx
 refine List.ext_getElem? fun j => ?_
 have hr:(aV z32)[j]? = if j<32 then some (Value.int .u8 0) else none:=by
  have:aV z32=List.replicate 32 (Value.int .u8 0):=rfl
  rw [this,List.getElem?_replicate]
 rw [hr]
 by_cases hj:j<32
 ·rw [if_pos hj]
  have e:=hf j hj
  rw [List.getElem?_eq_getElem (by omega),h5,Nat.mul_one] at e
  obtain ⟨n,e1,e2,_⟩:=DataW.trod_int Tryd.underlying5 e
  have q:(xs.map (·.1))[j]? = some (.lit (.int .u8 0)):=by rw [←hx,List.getElem?_replicate,if_pos hj]
  rw [List.getElem?_map,List.getElem?_eq_getElem (by omega),e2] at q
  have q:(DataW.lit (Lit.int .u8 n):DataW Unit) = .lit (.int .u8 0):=Option.some.inj q
  have q:=Lit.int.inj (DataW.lit.inj q)
  have e3:((cs.drop j).take 1)[0]? = some (.int .u8 n):=by rw [e1];rfl
  rw [List.getElem?_take,if_pos (by decide),List.getElem?_drop,Nat.add_zero] at e3
  rw [e3,q.2]
 ·rw [if_neg hj,List.getElem?_eq_none (by omega)]
theorem gr_of {W:World} (h:laidMet Tryd.prog Rows.inventoryRangesRow.laid W):GR (cU W (view W)):=by
 obtain ⟨ps,hl,_,_⟩:=h
 obtain ⟨g,t,cs,fuel,p,q,hg,ht,hv,htr,_,_⟩:=hl
 have hg0 : Tryd.prog.globalNamed "stolon/stolonref02.rounds" = some 1 := by kernel_rfl
 rw [hg0] at hg
 obtain rfl:=Option.some.inj hg
 have ht0:(Tryd.prog.globals[1]?).map (·.type)=some 175:=by kernel_rfl
 rw [ht0] at ht
 obtain rfl:=Option.some.inj ht
 unfold World.var? at hv
 rw [hg0] at hv
 have hv:(match W.heap[1]? with|some (Obj.cells c _ _)=>some c|_=>none)=some cs:=hv
 have hc:=rounds_cells (by kernel_rfl) htr
 unfold GR
 rw [view_get]
 unfold view
 split at hv
 ·rename_i c T fr hw
  cases hv
  rw [hw]
  show some (List.map _ _)=_
  rw [hc,rounds_clean,rkW_eq]
 ·cases hv
theorem gz_of {W:World} (h:laidMet Tryd.prog Rows.inventoryRangesRow.laid W):(cU W (view W)).get 3=some bZ:=by
 obtain ⟨ps,hl,_,_⟩:=h
 obtain ⟨_,_,_,_,_,_,_,_,_,_,hl,_⟩:=hl
 obtain ⟨g,t,cs,fuel,p,q,hg,ht,hv,htr,_,_⟩:=hl
 have hg0 : Tryd.prog.globalNamed "stolon/digest.rounds" = some 3 := by kernel_rfl
 rw [hg0] at hg
 obtain rfl:=Option.some.inj hg
 have ht0:(Tryd.prog.globals[3]?).map (·.type)=some 175:=by kernel_rfl
 rw [ht0] at ht
 obtain rfl:=Option.some.inj ht
 unfold World.var? at hv
 rw [hg0] at hv
 have hv:(match W.heap[3]? with|some (Obj.cells c _ _)=>some c|_=>none)=some cs:=hv
 have hc:=rounds_cells (by kernel_rfl) htr
 rw [view_get]
 unfold view
 split at hv
 ·rename_i c T fr hw
  cases hv
  rw [hw]
  show some (List.map _ _)=_
  rw [hc,rounds_clean]
 ·cases hv
theorem gz0_of {W:World} (h:laidMet Tryd.prog Rows.inventoryRangesRow.laid W):GZ (cU W (view W)):=by
 obtain ⟨ps,hl,_,_⟩:=h
 obtain ⟨_,_,_,_,_,_,_,_,_,_,hl,_⟩:=hl
 obtain ⟨_,_,_,_,_,_,_,_,_,_,hl,_⟩:=hl
 obtain ⟨g,t,cs,fuel,p,q,hg,ht,hv,htr,_,_⟩:=hl
 have hg0 : Tryd.prog.globalNamed "stolon/stolonref06.zero" = some 0 := by kernel_rfl
 rw [hg0] at hg
 obtain rfl:=Option.some.inj hg
 have ht0:(Tryd.prog.globals[0]?).map (·.type)=some 35:=by kernel_rfl
 rw [ht0] at ht
 obtain rfl:=Option.some.inj ht
 unfold World.var? at hv
 rw [hg0] at hv
 have hv:(match W.heap[0]? with|some (Obj.cells c _ _)=>some c|_=>none)=some cs:=hv
 have hc:=zero_cells htr
 unfold GZ
 rw [view_get]
 unfold view
 split at hv
 ·rename_i c T fr hw
  cases hv
  rw [hw]
  show some (List.map _ _)=_
  rw [hc,(cF z32_ok).clean]
 ·cases hv
theorem call_data' {P : Program} {f : FuncId} {s : List Value → ab → Out} (K : cw P f s) {fn : Func} (hfn : P.funcs[f]? = some fn) (hnm : (fn.name == "runtime.NumGoroutine") = false) (hbn : fn.body.isNone = false) (args args' : List Value) (W : World) (hg : P.globals.size ≤ W.heap.size) (hr : aM (topMu W) args args') (hb : cC W.heap.size args = true)
  (v:Value) (hv:flat v=true) (hs : ∃ h',s args (cU W (view W))=some (v,h')):Calls P f args'.toArray W fun e W'=>e = .returned v∧Below W.heap.size W W':=by
 obtain ⟨h',hs⟩:=hs
 have hno : ∀ B,¬Go.Abs.Own (topMu W) (cU W (view W)) B:=by
  rintro B ⟨b,k,L,hb,hk,_⟩
  rw [gG W _ hb] at hk;cases hk
 refine ((K.run args _ v h' hs hb (view_bd W) hg (topMu W) W args' (view_sim W) ?_ hr).calls hfn hnm hbn).mono ?_
 ·intro b hb _
  have : ¬b<W.heap.size:=Nat.not_lt.2 hb
  unfold topMu;rw [if_neg this]
 ·rintro e W' ⟨μ',v',rfl,S,St,hv'⟩
  rw [hv'.bD hv]
  exact ⟨rfl,St.below fun B _=>hno B⟩
theorem agg_rel {W:World} {a:Array Value} {l:List Value} (h:a.toList.map (clean W.heap.size)=l) (hn:Abs.bJ l=true):aA (topMu W) (.agg l.toArray) (.agg a):=by
 subst h
 refine .agg (by simp) fun i x y hx hy => ?_
 rw [List.getElem?_toArray,List.getElem?_map,Array.getElem?_toList,hy] at hx
 cases hx
 refine clean_rel ?_
 unfold Abs.bJ at hn
 rw [List.all_eq_true] at hn
 have:=hn _ (List.mem_map.2 ⟨y,by rw [Array.mem_toList_iff];exact Array.mem_of_getElem? hy,rfl⟩)
 simpa using this
theorem agg_bd {W:World} {a:Array Value} {l:List Value} (h:a.toList.map (clean W.heap.size)=l) (h0:0<W.heap.size):bW W.heap.size (.agg l.toArray)=true:=by
 show cC W.heap.size l=true
 subst h
 rw [dr]
 intro x hx
 obtain ⟨y,_,rfl⟩:=List.mem_map.1 hx
 exact clean_bd h0
set_option maxRecDepth 100000 in
theorem open_prf {W:World} {base:Nat} {v:Value} (h:Value.okWide Tryd.prog W .any base 66 v) : ∃ a,v = .agg a:=by
 unfold Value.okWide at h
 rw [Tryd.underlying66] at h
 obtain ⟨cs,rfl,_⟩:=h
 exact ⟨cs,rfl⟩
set_option maxRecDepth 100000 in
theorem slice_cells {W:World} {base:Nat} {t e:TypeId} {v:Value} (ht:Tryd.prog.underlying t=some (.slice e)) (h:Value.okWide Tryd.prog W .any base t v):v.cells.toList = [v]:=by
 unfold Value.okWide at h
 rw [ht] at h
 unfold Cell.okWide at h
 rw [ht] at h
 simp only at h
 unfold Cell.ok at h
 rw [ht] at h
 cases v with
 |slice a l c=>rfl
 |_=>simp at h
set_option maxRecDepth 100000 in
theorem inventoryRanges_lifted (os:Os) (started:os.Started) (H:Type) (enc:TypeId×Value→H) :
  ReturnsInHanded {} Tryd.checked os 3 .any (fun w args=>(Rows.inventoryRangesSpec.pre enc Tryd.prog Tryd.f3 [] false w args∧laidMetH Tryd.prog Rows.inventoryRangesRow.laid w)∧sizedMet enc Tryd.prog Tryd.f3 (OpenSpec.ofChange Rows.inventoryRangesSpec) false w args)
   (Rows.inventoryRangesSpec.post enc Tryd.prog Tryd.f3 false true false false):=by
 refine returnsInHanded_of_change_and (C:=Tryd.checked) (X:=fun w _=>laidMetH Tryd.prog Rows.inventoryRangesRow.laid w) (fun _ _ _ hh h=>h.of_heap hh) Tryd.own started (by kernel_rfl) Tryd.func3
  (ChangeSpec.witness_at (enc:=enc) (C:=Tryd.checked) (os:=os) (X:=fun w _=>laidMetH Tryd.prog Rows.inventoryRangesRow.laid w) false (laidWorld os) #[.slice none 0 0,.slice none 0 0,.slice none 0 0] 8 rfl (by kernel_rfl) (by kernel_rfl) (by kernel_rfl) (by kernel_rfl) (by kernel_rfl) (laid_met os _)) ?_
 intro W base args ds gs before hval0 hW _ _ hL _
 have hval : ∀ (j:Nat) t v,Tryd.f3.params[j]? = some t→args[j]? = some v→Value.okWide Tryd.prog W .any base t v:=hval0
 have hW':=hW
 have hlt:=fun p hp=>hW.lt p hp
 obtain ⟨p,q,hA0,hV,rfl,hfz,hnd⟩:=hW
 have hA:DataW.TrodAll enc Tryd.prog W 0 (fun _=>true) true Tryd.f3.params.toList args.toList ds p:=hA0
 rw [Tryd.params3] at hA hval
 obtain ⟨v0,v1,v2,d0,d1,d2,p0,p1,p2,rfl,rfl,rfl,h0,h1,h2⟩:=trodAll_three hA
 obtain ⟨rfl,rfl⟩:=trodVars_none hV
 have hsz:=size_of_laid (show laidMet Tryd.prog Rows.inventoryRangesRow.laid W from hL)
 have h4:4≤W.heap.size:=by rw [←globals4];exact hsz
 have hp:0<W.heap.size:=by omega
 have hc0:=slice_cells Tryd.underlying22 (hval 0 22 v0 rfl rfl)
 have hc1:=slice_cells Tryd.underlying23 (hval 1 23 v1 rfl rfl)
 have hc2:=slice_cells Tryd.underlying23 (hval 2 23 v2 rfl rfl)
 clear hA0 hval0
 simp only [List.append_nil] at hW'
 obtain ⟨fu0,hf0⟩:=h0
 have hf0':=hf0
 rw [hc0] at hf0'
 obtain ⟨fu1,hf1⟩:=h1
 have hf1':=hf1
 rw [hc1] at hf1'
 obtain ⟨fu2,hf2⟩:=h2
 have hf2':=hf2
 rw [hc2] at hf2'
 obtain ⟨hh0,ho0,gs0,L0,dg0⟩:=sl22 hf0'
 have q0r:=clean_rel (W:=W) hh0
 have q0b:=clean_bd (v:=v0) hp
 obtain ⟨hh1,n1,cs1,x1⟩:=sl23 hf1'
 obtain ⟨l1,rfl,rfl,hb1⟩:=bytes_of_typed x1.typed
 obtain ⟨ad1,cp1,e1,X1,-⟩:=x1.bytes hb1
 have q1r:=clean_rel (W:=W) hh1
 have q1b:=clean_bd (v:=v1) hp
 rw [e1] at q1r q1b
 obtain ⟨hh2,n2,cs2,x2⟩:=sl23 hf2'
 obtain ⟨l2,rfl,rfl,hb2⟩:=bytes_of_typed x2.typed
 obtain ⟨ad2,cp2,e2,X2,-⟩:=x2.bytes hb2
 have q2r:=clean_rel (W:=W) hh2
 have q2b:=clean_bd (v:=v2) hp
 rw [e2] at q2r q2b
 have hr:=gr_of (show laidMet Tryd.prog Rows.inventoryRangesRow.laid W from hL)
 have hz:=gz_of (show laidMet Tryd.prog Rows.inventoryRangesRow.laid W from hL)
 have hg0:=gz0_of (show laidMet Tryd.prog Rows.inventoryRangesRow.laid W from hL)
 refine (call_data' (cw.of_CC2 prog_mixed XX_sound YV_sound (S:=SV) is3) Tryd.func3 (by kernel_rfl) (by kernel_rfl) [clean W.heap.size v0,.slice ad1 l1.length cp1,.slice ad2 l2.length cp2] [v0,v1,v2] W hsz (aM.cons q0r (aM.cons q1r (aM.cons q2r (aM.nil _))))
  (by simp only [cC,q0b,q1b,q2b,Bool.and_self]) (.bool true) rfl (r3 (h:=cU W (view W)) h4 hz hr hg0 dg0 X1 X2)).mono fun e W' ⟨he,hbelow⟩ => ?_
 have k0:=Below.trod Tryd.laidOut (by kernel_rfl) (of_decide_eq_true (by kernel_rfl)) (⟨fu0,hf0⟩:DataW.Trod enc Tryd.prog W 0 (fun _=>true) true 22 v0 d0 p0) hbelow (fun x hx=>hlt x (by simp [hx]))
 have k1:=Below.trod Tryd.laidOut (by kernel_rfl) (of_decide_eq_true (by kernel_rfl)) (⟨fu1,hf1⟩:DataW.Trod enc Tryd.prog W 0 (fun _=>true) true 23 v1 d1 p1) hbelow (fun x hx=>hlt x (by simp [hx]))
 have k2:=Below.trod Tryd.laidOut (by kernel_rfl) (of_decide_eq_true (by kernel_rfl)) (⟨fu2,hf2⟩:DataW.Trod enc Tryd.prog W 0 (fun _=>true) true 23 v2 d2 p2) hbelow (fun x hx=>hlt x (by simp [hx]))
 exact ⟨_,he,_,_,_,[],_,[],hW',trodAll_mk1 (shut_bool Tryd.underlying4 true),trodAll_mk3 (k0) (k1) (k2),rfl,hbelow.frame _,fun h=>by cases h⟩
set_option maxRecDepth 100000 in
theorem inventoryRanges_row:Rows.InventoryRangesSaid:=
 OpenClaim.holds_of_wide 3 Tryd.f3 rfl rfl rfl rfl rfl rfl rfl ⟨rfl,rfl,rfl,rfl,rfl⟩ rfl rfl rfl rfl rfl (by kernel_rfl) Tryd.func3 (by kernel_rfl)
  (of_decide_eq_true (by kernel_rfl)) (by unfold Func.isWrapper;rw [if_neg (of_decide_eq_false (by kernel_rfl))];exact ⟨rfl,rfl⟩)
  (fun os started H enc _=>inventoryRanges_lifted os started H enc)
set_option maxRecDepth 100000 in
theorem inventoryRanges_holds:Rows.InventoryRangesCardSaid:=
 Claim7.holds_tied_plain_at .later [] [.data, .data, .zero] true (true, "57f3b8191fc2f593c17263bd025ee39b087d990eee0302947f03d2b4fd98e347") false
  inventoryRanges_row (fun _ h=>by cases h) (by kernel_rfl) (fun _ h=>by cases h) inventoryRanges_row_tie rfl ⟨rfl,rfl⟩ (by kernel_rfl) rfl
  (fun f fn hf hfn=>by
   obtain rfl : f = 3 := Option.some.inj ((show Tryd.prog.funcNamed "stolon/stolonlaw06.InventoryRanges" = some 3 by kernel_rfl).symm.trans hf) |>.symm
   obtain rfl:fn=Tryd.f3:=(Option.some.inj (Tryd.func3.symm.trans hfn)).symm
   exact ⟨by kernel_rfl,fun j t ht=>by
    rw [Tryd.params3] at ht
    have h3:t=22∨t=23∨t=23:=by
     rcases j with _|_|_|j
     ·exact .inl (by simpa using ht.symm)
     ·exact .inr (.inl (by simpa using ht.symm))
     ·exact .inr (.inr (by simpa using ht.symm))
     ·simp at ht
    rcases h3 with rfl|rfl|rfl
    ·exact (show Tryd.prog.wantsStandIn 22=false by kernel_rfl)
    ·exact (show Tryd.prog.wantsStandIn 23=false by kernel_rfl)
    ·exact (show Tryd.prog.wantsStandIn 23=false by kernel_rfl)⟩)
  (by kernel_rfl)
end Go.Proofs.YtdnahgfgoajmcaaDoor

