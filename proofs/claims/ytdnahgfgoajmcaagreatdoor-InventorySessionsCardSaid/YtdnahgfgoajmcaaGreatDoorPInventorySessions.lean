/-
  InventorySessions returns true at all inputs, and leaves its arguments; the card ties the listed tables to the program's text.
  Conditions: none beyond the given statement's.
-/
import Derived.Test.YtdnahgfgoajmcaaGreatDoorG21
import Derived.Test.YtdnahgfgoajmcaaGreatDoorRows
import Derived.Test.YtdnahgfgoajmcaaGreatDoorTie
import Derived.Test.YtdnahgfgoajmcaaGreatDoorCards
import Derived.ProofKit
import Derived.LaidLaws
import Derived.LaidHandle
import Derived.SevenTiedAt
namespace Go.Proofs.YtdnahgfgoajmcaaGreatDoor
open Go Go.Abs
open Go.ChangeShapes Go.WideShapes Go.ChangeAt Go.RowKit
theorem Tryz.own:ownKnob Tryz.prog.godebug=none:=by kernel_rfl
theorem Tryz.laidOut:laidOutB Tryz.prog=true:=by kernel_rfl
def cellsOfD:DataW Unit→Array Value
 | .agg l=>(l.map fun d=>match d with | .lit x=>x.value|_=>undef).toArray
 |_ => #[]
noncomputable def BI (os:Os):World:=
 let w0:=World.holding Tryz.prog os ⟨#[],#[],[]⟩
 let lay (g:Nat) (d:DataW Unit) (h:Array Obj):Array Obj:=h.modify g fun
  | .cells _ t frozen => .cells (cellsOfD d) t frozen
  |o=>o
 { w0 with heap:=lay 0 Rows.laid_stolon_stolonref06_zero (lay 3 Rows.laid_stolon_digest_rounds (lay 1 Rows.laid_stolon_stolonref02_rounds w0.heap)) }
theorem laid_met (os:Os) (args:Array Value):laidMet Tryz.prog Rows.inventorySessionsRow.laid ((BI os).forCall (fun _ _=>0) ⟨#[],args,[]⟩).memory:=
 laidMet_of_run' 8 (by kernel_rfl) (by kernel_rfl)
theorem CJ {W:World} (h:laidMet Tryz.prog Rows.inventorySessionsRow.laid W):Tryz.prog.globals.size≤W.heap.size:=by
 obtain ⟨ps,hl,_,_⟩:=h
 obtain ⟨_,_,_,_,_,_,_,_,_,_,hl,_⟩:=hl
 obtain ⟨g,_,cs,_,_,_,hg,_,hv,_⟩:=hl
 have hg3 : Tryz.prog.globalNamed "stolon/digest.rounds" = some 3 := by kernel_rfl
 unfold World.var? at hv
 rw [hg3] at hv
 have hv:(match W.heap[3]? with|some (Obj.cells c _ _)=>some c|_=>none)=some cs:=hv
 have h3:3<W.heap.size:=by
  rcases Nat.lt_or_ge 3 W.heap.size with h|h
  ·exact h
  ·rw [Array.getElem?_eq_none h] at hv;cases hv
 have hsz:Tryz.prog.globals.size=4:=by kernel_rfl
 omega
theorem zero_cells {W:World} {fuel:Nat} {cs:List Value} {p:List MemPlace} (h:DataW.trod (fun _=>()) Tryz.prog W 0 (fun _=>true) false fuel 36 cs=some (Rows.laid_stolon_stolonref06_zero,p)):cs=bn z32:=by
 obtain ⟨xs,m,rfl,hx,hl,hxl,hf⟩:=DataW.trod_array Tryz.underlying36 h
 have h28:Tryz.prog.cellsOf 36=32:=by kernel_rfl
 have h5:Tryz.prog.cellsOf 5=1:=by kernel_rfl
 rw [h28] at hl
 have hx:=congrArg Prod.fst hx
 have hz:(Rows.laid_stolon_stolonref06_zero:DataW Unit) = .agg (List.replicate 32 (.lit (.int .u8 0))):=rfl
 have hx:(Rows.laid_stolon_stolonref06_zero:DataW Unit) = .agg (xs.map (·.1)):=hx
 rw [hz] at hx
 have hx:=DataW.agg.inj hx
 refine List.ext_getElem? fun j => ?_
 have hr:(bn z32)[j]? = if j<32 then some (Value.int .u8 0) else none:=by
  have:bn z32=List.replicate 32 (Value.int .u8 0):=rfl
  rw [this,List.getElem?_replicate]
 rw [hr]
 by_cases hj:j<32
 ·rw [if_pos hj]
  have e:=hf j hj
  rw [List.getElem?_eq_getElem (by omega),h5,Nat.mul_one] at e
  obtain ⟨n,e1,e2,_⟩:=DataW.trod_int Tryz.underlying5 e
  have q:(xs.map (·.1))[j]? = some (.lit (.int .u8 0)):=by rw [←hx,List.getElem?_replicate,if_pos hj]
  rw [List.getElem?_map,List.getElem?_eq_getElem (by omega),e2] at q
  have q:(DataW.lit (Lit.int .u8 n):DataW Unit) = .lit (.int .u8 0):=Option.some.inj q
  have q:=Lit.int.inj (DataW.lit.inj q)
  have e3:((cs.drop j).take 1)[0]? = some (.int .u8 n):=by rw [e1];rfl
  rw [List.getElem?_take,if_pos (by decide),List.getElem?_drop,Nat.add_zero] at e3
  rw [e3,q.2]
 ·rw [if_neg hj,List.getElem?_eq_none (by omega)]
theorem gr_of {W:World} (h:laidMet Tryz.prog Rows.inventorySessionsRow.laid W):GR (dx W (view W)):=by
 obtain ⟨ps,hl,_,_⟩:=h
 obtain ⟨g,t,cs,fuel,p,q,hg,ht,hv,htr,_,_⟩:=hl
 have hg0 : Tryz.prog.globalNamed "stolon/stolonref02.rounds" = some 1 := by kernel_rfl
 rw [hg0] at hg
 obtain rfl:=Option.some.inj hg
 have ht0:(Tryz.prog.globals[1]?).map (·.type)=some 140:=by kernel_rfl
 rw [ht0] at ht
 obtain rfl:=Option.some.inj ht
 unfold World.var? at hv
 rw [hg0] at hv
 have hv:(match W.heap[1]? with|some (Obj.cells c _ _)=>some c|_=>none)=some cs:=hv
 have hc:=tj (by kernel_rfl) htr
 unfold GR
 rw [qk]
 unfold view
 split at hv
 ·rename_i c T fr hw
  cases hv
  rw [hw]
  show some (List.map _ _)=_
  rw [hc,ti,rkW_eq]
 ·cases hv
theorem gz_of {W:World} (h:laidMet Tryz.prog Rows.inventorySessionsRow.laid W):(dx W (view W)).get 3=some bT:=by
 obtain ⟨ps,hl,_,_⟩:=h
 obtain ⟨_,_,_,_,_,_,_,_,_,_,hl,_⟩:=hl
 obtain ⟨g,t,cs,fuel,p,q,hg,ht,hv,htr,_,_⟩:=hl
 have hg0 : Tryz.prog.globalNamed "stolon/digest.rounds" = some 3 := by kernel_rfl
 rw [hg0] at hg
 obtain rfl:=Option.some.inj hg
 have ht0:(Tryz.prog.globals[3]?).map (·.type)=some 140:=by kernel_rfl
 rw [ht0] at ht
 obtain rfl:=Option.some.inj ht
 unfold World.var? at hv
 rw [hg0] at hv
 have hv:(match W.heap[3]? with|some (Obj.cells c _ _)=>some c|_=>none)=some cs:=hv
 have hc:=tj (by kernel_rfl) htr
 rw [qk]
 unfold view
 split at hv
 ·rename_i c T fr hw
  cases hv
  rw [hw]
  show some (List.map _ _)=_
  rw [hc,ti]
 ·cases hv
theorem gz0_of {W:World} (h:laidMet Tryz.prog Rows.inventorySessionsRow.laid W):GZ (dx W (view W)):=by
 obtain ⟨ps,hl,_,_⟩:=h
 obtain ⟨_,_,_,_,_,_,_,_,_,_,hl,_⟩:=hl
 obtain ⟨_,_,_,_,_,_,_,_,_,_,hl,_⟩:=hl
 obtain ⟨g,t,cs,fuel,p,q,hg,ht,hv,htr,_,_⟩:=hl
 have hg0 : Tryz.prog.globalNamed "stolon/stolonref06.zero" = some 0 := by kernel_rfl
 rw [hg0] at hg
 obtain rfl:=Option.some.inj hg
 have ht0:(Tryz.prog.globals[0]?).map (·.type)=some 36:=by kernel_rfl
 rw [ht0] at ht
 obtain rfl:=Option.some.inj ht
 unfold World.var? at hv
 rw [hg0] at hv
 have hv:(match W.heap[0]? with|some (Obj.cells c _ _)=>some c|_=>none)=some cs:=hv
 have hc:=zero_cells htr
 unfold GZ
 rw [qk]
 unfold view
 split at hv
 ·rename_i c T fr hw
  cases hv
  rw [hw]
  show some (List.map _ _)=_
  rw [hc,(dK vG).clean]
 ·cases hv
theorem call_data' {P : Program} {f : FuncId} {s : List Value → ai → bc} (K : cQ P f s) {fn : Func} (hfn : P.funcs[f]? = some fn) (hnm : (fn.name == "runtime.NumGoroutine") = false) (hbn : fn.body.isNone = false) (args args' : List Value) (W : World) (hg : P.globals.size ≤ W.heap.size) (hr : aR (jB W) args args') (hb : cW W.heap.size args = true)
  (v:Value) (hv:flat v=true) (hs : ∃ h',s args (dx W (view W))=some (v,h')):Calls P f args'.toArray W fun e W'=>e = .returned v∧Below W.heap.size W W':=by
 obtain ⟨h',hs⟩:=hs
 have hno : ∀ B,¬Go.Abs.AN (jB W) (dx W (view W)) B:=by
  rintro B ⟨b,k,L,hb,hk,_⟩
  rw [iQ W _ hb] at hk;cases hk
 refine ((K.run args _ v h' hs hb (view_bd W) hg (jB W) W args' (view_sim W) ?_ hr).jz hfn hnm hbn).mono ?_
 ·intro b hb _
  have : ¬b<W.heap.size:=Nat.not_lt.2 hb
  unfold jB;rw [if_neg this]
 ·rintro e W' ⟨μ',v',rfl,S,St,hv'⟩
  rw [hv'.bM hv]
  exact ⟨rfl,St.below fun B _=>hno B⟩
theorem agg_rel {W:World} {a:Array Value} {l:List Value} (h:a.toList.map (clean W.heap.size)=l) (hn:Abs.noHoles l=true):aI (jB W) (.agg l.toArray) (.agg a):=by
 subst h
 refine .agg (by simp) fun i x y hx hy => ?_
 rw [List.getElem?_toArray,List.getElem?_map,Array.getElem?_toList,hy] at hx
 cases hx
 refine nP ?_
 unfold Abs.noHoles at hn
 rw [List.all_eq_true] at hn
 have:=hn _ (List.mem_map.2 ⟨y,by rw [Array.mem_toList_iff];exact Array.mem_of_getElem? hy,rfl⟩)
 simpa using this
theorem agg_bd {W:World} {a:Array Value} {l:List Value} (h:a.toList.map (clean W.heap.size)=l) (h0:0<W.heap.size):cz W.heap.size (.agg l.toArray)=true:=by
 show cW W.heap.size l=true
 subst h
 rw [dY]
 intro x hx
 obtain ⟨y,_,rfl⟩:=List.mem_map.1 hx
 exact px h0
set_option maxRecDepth 100000 in
theorem open_prf {W:World} {b9:Nat} {v:Value} (h:Value.okWide Tryz.prog W .any b9 66 v) : ∃ a,v = .agg a:=by
 unfold Value.okWide at h
 rw [Tryz.underlying66] at h
 obtain ⟨cs,rfl,_⟩:=h
 exact ⟨cs,rfl⟩
set_option maxRecDepth 100000 in
theorem pS {W:World} {b9:Nat} {t e:TypeId} {v:Value} (ht:Tryz.prog.underlying t=some (.slice e)) (h:Value.okWide Tryz.prog W .any b9 t v):v.cells.toList = [v]:=by
 unfold Value.okWide at h
 rw [ht] at h
 unfold Cell.okWide at h
 rw [ht] at h
 simp only at h
 unfold Cell.ok at h
 rw [ht] at h
 cases v with
 |slice a l c=>rfl
 |_=>simp at h
set_option maxRecDepth 100000 in
theorem mR (os:Os) (started:os.Started) (H:Type) (enc:TypeId×Value→H) :
  ReturnsInHanded {} Tryz.checked os 4 .any (fun w args=>(Rows.inventorySessionsSpec.pre enc Tryz.prog Tryz.f4 [] false w args∧laidMetH Tryz.prog Rows.inventorySessionsRow.laid w)∧sizedMet enc Tryz.prog Tryz.f4 (OpenSpec.ofChange Rows.inventorySessionsSpec) false w args)
   (Rows.inventorySessionsSpec.post enc Tryz.prog Tryz.f4 false true false false):=by
 refine returnsInHanded_of_change_and (C:=Tryz.checked) (X:=fun w _=>laidMetH Tryz.prog Rows.inventorySessionsRow.laid w) (fun _ _ _ hh h=>h.of_heap hh) Tryz.own started (by kernel_rfl) Tryz.func4
  (ChangeSpec.witness_at (enc:=enc) (C:=Tryz.checked) (os:=os) (X:=fun w _=>laidMetH Tryz.prog Rows.inventorySessionsRow.laid w) false (BI os) #[.slice none 0 0,.slice none 0 0,.slice none 0 0] 8 rfl (by kernel_rfl) (by kernel_rfl) (by kernel_rfl) (by kernel_rfl) (by kernel_rfl) (laid_met os _)) ?_
 intro W b9 args ds gs before hval0 hW _ _ hL _
 have hval : ∀ (j:Nat) t v,Tryz.f4.params[j]? = some t→args[j]? = some v→Value.okWide Tryz.prog W .any b9 t v:=hval0
 have hW':=hW
 have hlt:=fun p hp=>hW.lt p hp
 obtain ⟨p,q,hA0,hV,rfl,hfz,hnd⟩:=hW
 have hA:DataW.TrodAll enc Tryz.prog W 0 (fun _=>true) true Tryz.f4.params.toList args.toList ds p:=hA0
 rw [Tryz.params4] at hA hval
 obtain ⟨v0,v1,v2,d0,d1,d2,p0,p1,p2,rfl,rfl,rfl,h0,h1,h2⟩:=trodAll_three hA
 obtain ⟨rfl,rfl⟩:=trodVars_none hV
 have hsz:=CJ (show laidMet Tryz.prog Rows.inventorySessionsRow.laid W from hL)
 have h4:4≤W.heap.size:=by rw [←lD];exact hsz
 have hp:0<W.heap.size:=by omega
 have hc0:=pS Tryz.underlying22 (hval 0 22 v0 rfl rfl)
 have hc1:=pS Tryz.underlying22 (hval 1 22 v1 rfl rfl)
 have hc2:=pS Tryz.underlying53 (hval 2 53 v2 rfl rfl)
 clear hA0 hval0
 simp only [List.append_nil] at hW'
 obtain ⟨fu0,hf0⟩:=h0
 have hf0':=hf0
 rw [hc0] at hf0'
 obtain ⟨fu1,hf1⟩:=h1
 have hf1':=hf1
 rw [hc1] at hf1'
 obtain ⟨fu2,hf2⟩:=h2
 have hf2':=hf2
 rw [hc2] at hf2'
 obtain ⟨hh0,ho0,gs0,L0,dg0⟩:=sl22 hf0'
 have q0r:=nP (W:=W) hh0
 have q0b:=px (v:=v0) hp
 obtain ⟨hh1,ho1,gs1,L1,dg1⟩:=sl22 hf1'
 have q1r:=nP (W:=W) hh1
 have q1b:=px (v:=v1) hp
 obtain ⟨hh2,L2,dg2⟩:=sl52 hf2'
 have q2r:=nP (W:=W) hh2
 have q2b:=px (v:=v2) hp
 have hr:=gr_of (show laidMet Tryz.prog Rows.inventorySessionsRow.laid W from hL)
 have hz:=gz_of (show laidMet Tryz.prog Rows.inventorySessionsRow.laid W from hL)
 have hg0:=gz0_of (show laidMet Tryz.prog Rows.inventorySessionsRow.laid W from hL)
 refine (call_data' (cQ.of_CC2 lZ yi YV_sound (S:=SV) isz4) Tryz.func4 (by kernel_rfl) (by kernel_rfl) [clean W.heap.size v0,clean W.heap.size v1,clean W.heap.size v2] [v0,v1,v2] W hsz (aR.cons q0r (aR.cons q1r (aR.cons q2r (aR.nil _))))
  (by simp only [cW,q0b,q1b,q2b,Bool.and_self]) (.bool true) rfl (rz4 (h:=dx W (view W)) h4 hz hr hg0 dg0 dg1 dg2)).mono fun e W' ⟨he,hbelow⟩ => ?_
 have k0:=Below.trod Tryz.laidOut (by kernel_rfl) (of_decide_eq_true (by kernel_rfl)) (⟨fu0,hf0⟩:DataW.Trod enc Tryz.prog W 0 (fun _=>true) true 22 v0 d0 p0) hbelow (fun x hx=>hlt x (by simp [hx]))
 have k1:=Below.trod Tryz.laidOut (by kernel_rfl) (of_decide_eq_true (by kernel_rfl)) (⟨fu1,hf1⟩:DataW.Trod enc Tryz.prog W 0 (fun _=>true) true 22 v1 d1 p1) hbelow (fun x hx=>hlt x (by simp [hx]))
 have k2:=Below.trod Tryz.laidOut (by kernel_rfl) (of_decide_eq_true (by kernel_rfl)) (⟨fu2,hf2⟩:DataW.Trod enc Tryz.prog W 0 (fun _=>true) true 53 v2 d2 p2) hbelow (fun x hx=>hlt x (by simp [hx]))
 exact ⟨_,he,_,_,_,[],_,[],hW',trodAll_mk1 (shut_bool Tryz.underlying4 true),trodAll_mk3 (k0) (k1) (k2),rfl,hbelow.frame _,fun h=>by cases h⟩
set_option maxRecDepth 100000 in
theorem pk:Rows.InventorySessionsSaid:=
 OpenClaim.holds_of_wide 4 Tryz.f4 rfl rfl rfl rfl rfl rfl rfl ⟨rfl,rfl,rfl,rfl,rfl⟩ rfl rfl rfl rfl rfl (by kernel_rfl) Tryz.func4 (by kernel_rfl)
  (of_decide_eq_true (by kernel_rfl)) (by unfold Func.isWrapper;rw [if_neg (of_decide_eq_false (by kernel_rfl))];exact ⟨rfl,rfl⟩)
  (fun os started H enc _=>mR os started H enc)
set_option maxRecDepth 100000 in
theorem inventorySessions_holds:Rows.InventorySessionsCardSaid:=
 Claim7.holds_tied_plain_at .later [] [.data, .data, .zero] true (true, "7146c803e7fa4d3483493c056f3c4d4007d5ec066a236fbc0bceec5e26c62327") false
  pk (fun _ h=>by cases h) (by kernel_rfl) (fun _ h=>by cases h) inventorySessions_row_tie rfl ⟨rfl,rfl⟩ (by kernel_rfl) rfl
  (fun f fn hf hfn=>by
   obtain rfl : f = 4 := Option.some.inj ((show Tryz.prog.funcNamed "stolon/stolonlaw06.InventorySessions" = some 4 by kernel_rfl).symm.trans hf) |>.symm
   obtain rfl:fn=Tryz.f4:=(Option.some.inj (Tryz.func4.symm.trans hfn)).symm
   exact ⟨by kernel_rfl,fun j t ht=>by
    rw [Tryz.params4] at ht
    have h3:t=22∨t=22∨t=53:=by
     rcases j with _|_|_|j
     ·exact .inl (by simpa using ht.symm)
     ·exact .inr (.inl (by simpa using ht.symm))
     ·exact .inr (.inr (by simpa using ht.symm))
     ·simp at ht
    rcases h3 with rfl|rfl|rfl
    ·exact (show Tryz.prog.wantsStandIn 22=false by kernel_rfl)
    ·exact (show Tryz.prog.wantsStandIn 22=false by kernel_rfl)
    ·exact (show Tryz.prog.wantsStandIn 53=false by kernel_rfl)⟩)
  (by kernel_rfl)
end Go.Proofs.YtdnahgfgoajmcaaGreatDoor
