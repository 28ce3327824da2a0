/-
  InventoryMemory returns true at all inputs, and leaves its arguments; the card ties the listed tables to the program's text.
  Conditions: none beyond the given statement's.
-/
import Derived.Test.YtdnahgfgoajmcaaDoorG18
import Derived.Test.YtdnahgfgoajmcaaDoorRows
import Derived.Test.YtdnahgfgoajmcaaDoorTie
import Derived.Test.YtdnahgfgoajmcaaDoorCards
import Derived.ProofKit
import Derived.LaidLaws
import Derived.LaidHandle
import Derived.SevenTiedAt
namespace Go.Proofs.YtdnahgfgoajmcaaDoor
open Go Go.Abs
open Go.ChangeShapes Go.WideShapes Go.ChangeAt Go.RowKit
theorem Tryd.own:ownKnob Tryd.prog.godebug=none:=by kernel_rfl
theorem Tryd.laidOut:laidOutB Tryd.prog=true:=by kernel_rfl
def cellsOfD:DataW Unit→Array Value
 | .agg l=>(l.map fun d=>match d with | .lit x=>x.value|_=>undef).toArray
 |_ => #[]
noncomputable def laidWorld (os:Os):World:=
 let w0:=World.holding Tryd.prog os ⟨#[],#[],[]⟩
 let lay (g:Nat) (d:DataW Unit) (h:Array Obj):Array Obj:=h.modify g fun
  | .cells _ t frozen => .cells (cellsOfD d) t frozen
  |o=>o
 { w0 with heap:=lay 3 Rows.laid_stolon_digest_rounds w0.heap }
theorem laid_met (os:Os) (args:Array Value):laidMet Tryd.prog Rows.inventoryMemoryRow.laid ((laidWorld os).forCall (fun _ _=>0) ⟨#[],args,[]⟩).memory:=
 laidMet_of_run' 8 (by kernel_rfl) (by kernel_rfl)
theorem size_of_laid {W:World} (h:laidMet Tryd.prog Rows.inventoryMemoryRow.laid W):Tryd.prog.globals.size≤W.heap.size:=by
 obtain ⟨ps,hl,_,_⟩:=h
 obtain ⟨g,_,cs,_,_,_,hg,_,hv,_⟩:=hl
 have hg3 : Tryd.prog.globalNamed "stolon/digest.rounds" = some 3 := by kernel_rfl
 unfold World.var? at hv
 rw [hg3] at hv
 have hv:(match W.heap[3]? with|some (Obj.cells c _ _)=>some c|_=>none)=some cs:=hv
 have h3:3<W.heap.size:=by
  rcases Nat.lt_or_ge 3 W.heap.size with h|h
  ·exact h
  ·rw [Array.getElem?_eq_none h] at hv;cases hv
 have hsz:Tryd.prog.globals.size=4:=by kernel_rfl
 omega
theorem gz_of {W:World} (h:laidMet Tryd.prog Rows.inventoryMemoryRow.laid W):(cQ W (view W)).get 3=some bB:=by
 obtain ⟨ps,hl,_,_⟩:=h
 obtain ⟨g,t,cs,fuel,p,q,hg,ht,hv,htr,_,_⟩:=hl
 have hg0 : Tryd.prog.globalNamed "stolon/digest.rounds" = some 3 := by kernel_rfl
 rw [hg0] at hg
 obtain rfl:=Option.some.inj hg
 have ht0:(Tryd.prog.globals[3]?).map (·.type)=some 175:=by kernel_rfl
 rw [ht0] at ht
 obtain rfl:=Option.some.inj ht
 unfold World.var? at hv
 rw [hg0] at hv
 have hv:(match W.heap[3]? with|some (Obj.cells c _ _)=>some c|_=>none)=some cs:=hv
 have hc:=rounds_cells (by kernel_rfl) htr
 rw [view_get]
 unfold view
 split at hv
 ·rename_i c T fr hw
  cases hv
  rw [hw]
  show some (List.map _ _)=_
  rw [hc,rounds_clean]
 ·cases hv
theorem call_data' {P : Program} {f : FuncId} {s : List Value → ab → Out} (K : bO P f s) {fn : Func} (hfn : P.funcs[f]? = some fn) (hnm : (fn.name == "runtime.NumGoroutine") = false) (hbn : fn.body.isNone = false) (args args' : List Value) (W : World) (hg : P.globals.size ≤ W.heap.size) (hr : aB (topMu W) args args') (hb : bS W.heap.size args = true)
  (v:Value) (hv:flat v=true) (hs : ∃ h',s args (cQ W (view W))=some (v,h')):Calls P f args'.toArray W fun e W'=>e = .returned v∧Below W.heap.size W W':=by
 obtain ⟨h',hs⟩:=hs
 have hno : ∀ B,¬Go.Abs.Own (topMu W) (cQ W (view W)) B:=by
  rintro B ⟨b,k,L,hb,hk,_⟩
  rw [fQ W _ hb] at hk;cases hk
 refine ((K.run args _ v h' hs hb (view_bd W) hg (topMu W) W args' (view_sim W) ?_ hr).calls hfn hnm hbn).mono ?_
 ·intro b hb _
  have : ¬b<W.heap.size:=Nat.not_lt.2 hb
  unfold topMu;rw [if_neg this]
 ·rintro e W' ⟨μ',v',rfl,S,St,hv'⟩
  rw [hv'.aU hv]
  exact ⟨rfl,St.below fun B _=>hno B⟩
theorem agg_rel {W:World} {a:Array Value} {l:List Value} (h:a.toList.map (clean W.heap.size)=l) (hn:Abs.bj l=true):aw (topMu W) (.agg l.toArray) (.agg a):=by
 subst h
 refine .agg (by simp) fun i x y hx hy => ?_
 rw [List.getElem?_toArray,List.getElem?_map,Array.getElem?_toList,hy] at hx
 cases hx
 refine clean_rel ?_
 unfold Abs.bj at hn
 rw [List.all_eq_true] at hn
 have:=hn _ (List.mem_map.2 ⟨y,by rw [Array.mem_toList_iff];exact Array.mem_of_getElem? hy,rfl⟩)
 simpa using this
theorem agg_bd {W:World} {a:Array Value} {l:List Value} (h:a.toList.map (clean W.heap.size)=l) (h0:0<W.heap.size):bA W.heap.size (.agg l.toArray)=true:=by
 show bS W.heap.size l=true
 subst h
 rw [cR]
 intro x hx
 obtain ⟨y,_,rfl⟩:=List.mem_map.1 hx
 exact clean_bd h0
set_option maxRecDepth 100000 in
theorem open_prf {W:World} {base:Nat} {v:Value} (h:Value.okWide Tryd.prog W .any base 66 v) : ∃ a,v = .agg a:=by
 unfold Value.okWide at h
 rw [Tryd.underlying66] at h
 obtain ⟨cs,rfl,_⟩:=h
 exact ⟨cs,rfl⟩
set_option maxRecDepth 100000 in
theorem slice_cells {W:World} {base:Nat} {t e:TypeId} {v:Value} (ht:Tryd.prog.underlying t=some (.slice e)) (h:Value.okWide Tryd.prog W .any base t v):v.cells.toList = [v]:=by
 unfold Value.okWide at h
 rw [ht] at h
 unfold Cell.okWide at h
 rw [ht] at h
 simp only at h
 unfold Cell.ok at h
 rw [ht] at h
 cases v with
 |slice a l c=>rfl
 |_=>simp at h
set_option maxRecDepth 100000 in
theorem inventoryMemory_lifted (os:Os) (started:os.Started) (H:Type) (enc:TypeId×Value→H) :
  ReturnsInHanded {} Tryd.checked os 13 .any (fun w args=>(Rows.inventoryMemorySpec.pre enc Tryd.prog Tryd.f13 [] false w args∧laidMetH Tryd.prog Rows.inventoryMemoryRow.laid w)∧sizedMet enc Tryd.prog Tryd.f13 (OpenSpec.ofChange Rows.inventoryMemorySpec) false w args)
   (Rows.inventoryMemorySpec.post enc Tryd.prog Tryd.f13 false true false false):=by
 refine returnsInHanded_of_change_and (C:=Tryd.checked) (X:=fun w _=>laidMetH Tryd.prog Rows.inventoryMemoryRow.laid w) (fun _ _ _ hh h=>h.of_heap hh) Tryd.own started (by kernel_rfl) Tryd.func13
  (ChangeSpec.witness_at (enc:=enc) (C:=Tryd.checked) (os:=os) (X:=fun w _=>laidMetH Tryd.prog Rows.inventoryMemoryRow.laid w) false (laidWorld os) #[.slice none 0 0] 8 rfl (by kernel_rfl) (by kernel_rfl) (by kernel_rfl) (by kernel_rfl) (by kernel_rfl) (laid_met os _)) ?_
 intro W base args ds gs before hval0 hW _ _ hL _
 have hval : ∀ (j:Nat) t v,Tryd.f13.params[j]? = some t→args[j]? = some v→Value.okWide Tryd.prog W .any base t v:=hval0
 have hW':=hW
 have hlt:=fun p hp=>hW.lt p hp
 obtain ⟨p,q,hA0,hV,rfl,hfz,hnd⟩:=hW
 have hA:DataW.TrodAll enc Tryd.prog W 0 (fun _=>true) true Tryd.f13.params.toList args.toList ds p:=hA0
 rw [Tryd.params13] at hA hval
 obtain ⟨v0,d0,rfl,rfl,h0⟩:=trodAll_one hA
 obtain ⟨rfl,rfl⟩:=trodVars_none hV
 have hsz:=size_of_laid (show laidMet Tryd.prog Rows.inventoryMemoryRow.laid W from hL)
 have h4:4≤W.heap.size:=by rw [←globals4];exact hsz
 have hp:0<W.heap.size:=by omega
 have hc0:=slice_cells Tryd.underlying22 (hval 0 22 v0 rfl rfl)
 clear hA0 hval0
 simp only [List.append_nil] at hW'
 obtain ⟨fu0,hf0⟩:=h0
 have hf0':=hf0
 rw [hc0] at hf0'
 obtain ⟨hh0,ho0,gs0,L0,dg0⟩:=sl22 hf0'
 have q0r:=clean_rel (W:=W) hh0
 have q0b:=clean_bd (v:=v0) hp
 have hz:=gz_of (show laidMet Tryd.prog Rows.inventoryMemoryRow.laid W from hL)
 refine (call_data' (bO.of_CC2 prog_mixed XX_sound YV_sound (S:=SV) is13) Tryd.func13 (by kernel_rfl) (by kernel_rfl) [clean W.heap.size v0] [v0] W hsz (aB.cons q0r (aB.nil _))
  (by simp only [bS,q0b,Bool.and_self]) (.bool true) rfl (r13 (h:=cQ W (view W)) h4 hz dg0)).mono fun e W' ⟨he,hbelow⟩ => ?_
 have k0:=Below.trod Tryd.laidOut (by kernel_rfl) (of_decide_eq_true (by kernel_rfl)) (⟨fu0,hf0⟩:DataW.Trod enc Tryd.prog W 0 (fun _=>true) true 22 v0 d0 p) hbelow (fun x hx=>hlt x (by simp [hx]))
 exact ⟨_,he,_,_,_,[],_,[],hW',trodAll_mk1 (shut_bool Tryd.underlying4 true),trodAll_mk1 (k0),rfl,hbelow.frame _,fun h=>by cases h⟩
set_option maxRecDepth 100000 in
theorem inventoryMemory_row:Rows.InventoryMemorySaid:=
 OpenClaim.holds_of_wide 13 Tryd.f13 rfl rfl rfl rfl rfl rfl rfl ⟨rfl,rfl,rfl,rfl,rfl⟩ rfl rfl rfl rfl rfl (by kernel_rfl) Tryd.func13 (by kernel_rfl)
  (of_decide_eq_true (by kernel_rfl)) (by unfold Func.isWrapper;rw [if_neg (of_decide_eq_false (by kernel_rfl))];exact ⟨rfl,rfl⟩)
  (fun os started H enc _=>inventoryMemory_lifted os started H enc)
set_option maxRecDepth 100000 in
theorem inventoryMemory_holds:Rows.InventoryMemoryCardSaid:=
 Claim7.holds_tied_plain_at .later [] [.data] true (true, "57f3b8191fc2f593c17263bd025ee39b087d990eee0302947f03d2b4fd98e347") false
  inventoryMemory_row (fun _ h=>by cases h) (by kernel_rfl) (fun _ h=>by cases h) inventoryMemory_row_tie rfl ⟨rfl,rfl⟩ (by kernel_rfl) rfl
  (fun f fn hf hfn=>by
   obtain rfl : f = 13 := Option.some.inj ((show Tryd.prog.funcNamed "stolon/stolonlaw06.InventoryMemory" = some 13 by kernel_rfl).symm.trans hf) |>.symm
   obtain rfl:fn=Tryd.f13:=(Option.some.inj (Tryd.func13.symm.trans hfn)).symm
   exact ⟨by kernel_rfl,fun j t ht=>by
    rw [Tryd.params13] at ht
    have h3:t=22:=by
     rcases j with _|j
     ·simpa using ht.symm
     ·simp at ht
    rcases h3 with rfl
    ·exact (show Tryd.prog.wantsStandIn 22=false by kernel_rfl)⟩)
  (by kernel_rfl)
end Go.Proofs.YtdnahgfgoajmcaaDoor

