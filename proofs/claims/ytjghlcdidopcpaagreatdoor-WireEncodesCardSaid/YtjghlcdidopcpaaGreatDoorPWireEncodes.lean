/-
  WireEncodes returns true at all inputs, and leaves its arguments; the card ties the listed tables to the program's text.
  Conditions: none beyond the given statement's.
-/
import Derived.Test.YtjghlcdidopcpaaGreatDoorG14
import Derived.Test.YtjghlcdidopcpaaGreatDoorRows
import Derived.Test.YtjghlcdidopcpaaGreatDoorTie
import Derived.Test.YtjghlcdidopcpaaGreatDoorCards
import Derived.ProofKit
import Derived.LaidLaws
import Derived.LaidHandle
import Derived.SevenTiedAt
namespace Go.Proofs.YtjghlcdidopcpaaGreatDoor
open Go Go.Abs
open Go.ChangeShapes Go.WideShapes Go.ChangeAt Go.RowKit
theorem Tryz.own:ownKnob Tryz.prog.godebug=none:=by kernel_rfl
theorem Tryz.laidOut:laidOutB Tryz.prog=true:=by kernel_rfl
def cellsOfD:DataW Unit→Array Value
 | .agg l=>(l.map fun d=>match d with | .lit x=>x.value|_=>undef).toArray
 |_ => #[]
noncomputable def laidWorld (os:Os):World:=
 let w0:=World.holding Tryz.prog os ⟨#[],#[],[]⟩
 let lay (g:Nat) (d:DataW Unit) (h:Array Obj):Array Obj:=h.modify g fun
  | .cells _ t frozen => .cells (cellsOfD d) t frozen
  |o=>o
 { w0 with heap:=lay 1 Rows.laid_internal_strconv_uint64pow10 (lay 2 Rows.laid_math_bits_deBruijn32tab (lay 3 Rows.laid_math_bits_deBruijn64tab (lay 0 Rows.laid_stolon_stolonref06_zero w0.heap))) }
theorem laid_met (os:Os) (args:Array Value):laidMet Tryz.prog Rows.wireEncodesRow.laid ((laidWorld os).forCall (fun _ _=>0) ⟨#[],args,[]⟩).memory:=
 laidMet_of_run' 8 (by kernel_rfl) (by kernel_rfl)
theorem size_of_laid {W:World} (h:laidMet Tryz.prog Rows.wireEncodesRow.laid W):Tryz.prog.globals.size≤W.heap.size:=by
 obtain ⟨ps,hl,_,_⟩:=h
 obtain ⟨_,_,_,_,_,q,_,_,_,_,hl2,_⟩:=hl
 obtain ⟨g,_,cs,_,_,_,hg,_,hv,_⟩:=hl2
 have hg3 : Tryz.prog.globalNamed "math/bits.deBruijn64tab" = some 3 := by kernel_rfl
 unfold World.var? at hv
 rw [hg3] at hv
 have hv:(match W.heap[3]? with|some (Obj.cells c _ _)=>some c|_=>none)=some cs:=hv
 have h3:3<W.heap.size:=by
  rcases Nat.lt_or_ge 3 W.heap.size with h|h
  ·exact h
  ·rw [Array.getElem?_eq_none h] at hv;cases hv
 have hsz:Tryz.prog.globals.size=4:=by kernel_rfl
 omega
theorem call_data' {P:Program} {f:FuncId} {s:List Value→ak→Out} (K:dG P f s) (args args':List Value) (W:World) (hg:P.globals.size≤W.heap.size) (hr:bp (topMu W) args args') (hb:dy W.heap.size args=true)
  (v:Value) (hv:flat v=true) (hs : ∃ h',s args (dd W (view W))=some (v,h')):Calls P f args'.toArray W fun e W'=>e = .returned v∧Below W.heap.size W W':=by
 obtain ⟨h',hs⟩:=hs
 have hno : ∀ B,¬Own (topMu W) (dd W (view W)) B:=by
  rintro B ⟨b,k,L,hb,hk,_⟩
  rw [topHeap_new W _ hb] at hk;cases hk
 refine (K.run args _ v h' hs hb (view_bd W) hg (topMu W) W args' (view_sim W) ?_ hr).mono ?_
 ·intro b hb _
  have : ¬b<W.heap.size:=Nat.not_lt.2 hb
  unfold topMu;rw [if_neg this]
 ·rintro e W' ⟨μ',v',rfl,S,St,hv'⟩
  rw [hv'.cI hv]
  exact ⟨rfl,St.below fun B _=>hno B⟩
theorem agg_rel {W:World} {a:Array Value} {l:List Value} (h:a.toList.map (clean W.heap.size)=l) (hn:Abs.bA l=true):aQ (topMu W) (.agg l.toArray) (.agg a):=by
 subst h
 refine .agg (by simp) fun i x y hx hy => ?_
 rw [List.getElem?_toArray,List.getElem?_map,Array.getElem?_toList,hy] at hx
 cases hx
 refine clean_rel ?_
 unfold Abs.bA at hn
 rw [List.all_eq_true] at hn
 have:=hn _ (List.mem_map.2 ⟨y,by rw [Array.mem_toList_iff];exact Array.mem_of_getElem? hy,rfl⟩)
 simpa using this
theorem agg_bd {W:World} {a:Array Value} {l:List Value} (h:a.toList.map (clean W.heap.size)=l) (h0:0<W.heap.size):cU W.heap.size (.agg l.toArray)=true:=by
 show dy W.heap.size l=true
 subst h
 rw [dh]
 intro x hx
 obtain ⟨y,_,rfl⟩:=List.mem_map.1 hx
 exact clean_bd h0
set_option maxRecDepth 100000 in
theorem open_msg {W:World} {base:Nat} {v:Value} (h:Value.okWide Tryz.prog W .any base 37 v) : ∃ a,v = .agg a:=by
 unfold Value.okWide at h
 rw [Tryz.underlying37] at h
 obtain ⟨cs,rfl,_⟩:=h
 exact ⟨cs,rfl⟩
theorem zero_cells {W:World} {fuel:Nat} {cs:List Value} {p:List MemPlace} (h:DataW.trod (fun _=>()) Tryz.prog W 0 (fun _=>true) false fuel 28 cs=some (Rows.laid_stolon_stolonref06_zero,p)):cs=bI z32:=by
 obtain ⟨xs,m,rfl,hx,hl,hxl,hf⟩:=DataW.trod_array Tryz.underlying28 h
 have h28:Tryz.prog.cellsOf 28=32:=by kernel_rfl
 have h5:Tryz.prog.cellsOf 5=1:=by kernel_rfl
 rw [h28] at hl
 have hx:=congrArg Prod.fst hx
 have hz:(Rows.laid_stolon_stolonref06_zero:DataW Unit) = .agg (List.replicate 32 (.lit (.int .u8 0))):=rfl
 have hx:(Rows.laid_stolon_stolonref06_zero:DataW Unit) = .agg (xs.map (·.1)):=hx
 rw [hz] at hx
 have hx:=DataW.agg.inj hx
 refine List.ext_getElem? fun j => ?_
 have hr:(bI z32)[j]? = if j<32 then some (Value.int .u8 0) else none:=by
  have:bI z32=List.replicate 32 (Value.int .u8 0):=rfl
  rw [this,List.getElem?_replicate]
 rw [hr]
 by_cases hj:j<32
 ·rw [if_pos hj]
  have e:=hf j hj
  rw [List.getElem?_eq_getElem (by omega),h5,Nat.mul_one] at e
  obtain ⟨n,e1,e2,_⟩:=DataW.trod_int Tryz.underlying5 e
  have q:(xs.map (·.1))[j]? = some (.lit (.int .u8 0)):=by rw [←hx,List.getElem?_replicate,if_pos hj]
  rw [List.getElem?_map,List.getElem?_eq_getElem (by omega),e2] at q
  have q:(DataW.lit (Lit.int .u8 n):DataW Unit) = .lit (.int .u8 0):=Option.some.inj q
  have q:=Lit.int.inj (DataW.lit.inj q)
  have e3:((cs.drop j).take 1)[0]? = some (.int .u8 n):=by rw [e1];rfl
  rw [List.getElem?_take,if_pos (by decide),List.getElem?_drop,Nat.add_zero] at e3
  rw [e3,q.2]
 ·rw [if_neg hj,List.getElem?_eq_none (by omega)]
theorem gz_of {W:World} (h:laidMet Tryz.prog Rows.wireEncodesRow.laid W):GZ (dd W (view W)):=by
 obtain ⟨ps,hl,_,_⟩:=h
 obtain ⟨_,_,_,_,_,_,_,_,_,_,hl,_⟩:=hl
 obtain ⟨_,_,_,_,_,_,_,_,_,_,hl,_⟩:=hl
 obtain ⟨_,_,_,_,_,_,_,_,_,_,hl,_⟩:=hl
 obtain ⟨g,t,cs,fuel,p,q,hg,ht,hv,htr,_,_⟩:=hl
 have hg0 : Tryz.prog.globalNamed "stolon/stolonref06.zero" = some 0 := by kernel_rfl
 rw [hg0] at hg
 obtain rfl:=Option.some.inj hg
 have ht0:(Tryz.prog.globals[0]?).map (·.type)=some 28:=by kernel_rfl
 rw [ht0] at ht
 obtain rfl:=Option.some.inj ht
 unfold World.var? at hv
 rw [hg0] at hv
 have hv:(match W.heap[0]? with|some (Obj.cells c _ _)=>some c|_=>none)=some cs:=hv
 have hc:=zero_cells htr
 unfold GZ
 rw [view_get]
 unfold view
 split at hv
 ·rename_i c T fr hw
  cases hv
  rw [hw]
  show some (List.map _ _)=_
  rw [hc,(fo z32_ok).clean]
 ·cases hv
set_option maxRecDepth 100000 in
theorem slice_cells {W:World} {base:Nat} {t e:TypeId} {v:Value} (ht:Tryz.prog.underlying t=some (.slice e)) (h:Value.okWide Tryz.prog W .any base t v):v.cells.toList = [v]:=by
 unfold Value.okWide at h
 rw [ht] at h
 unfold Cell.okWide at h
 rw [ht] at h
 simp only at h
 unfold Cell.ok at h
 rw [ht] at h
 cases v with
 |slice a l c=>rfl
 |_=>simp at h
set_option maxRecDepth 100000 in
theorem wireEncodes_lifted (os:Os) (started:os.Started) (H:Type) (enc:TypeId×Value→H) :
  ReturnsInHanded {} Tryz.checked os 8 .any (fun w args=>(Rows.wireEncodesSpec.pre enc Tryz.prog Tryz.f8 [] false w args∧laidMetH Tryz.prog Rows.wireEncodesRow.laid w)∧sizedMet enc Tryz.prog Tryz.f8 (OpenSpec.ofChange Rows.wireEncodesSpec) false w args)
   (Rows.wireEncodesSpec.post enc Tryz.prog Tryz.f8 false true false false):=by
 refine returnsInHanded_of_change_and (C:=Tryz.checked) (X:=fun w _=>laidMetH Tryz.prog Rows.wireEncodesRow.laid w) (fun _ _ _ hh h=>h.of_heap hh) Tryz.own started (by kernel_rfl) Tryz.func8
  (ChangeSpec.witness_at (enc:=enc) (C:=Tryz.checked) (os:=os) (X:=fun w _=>laidMetH Tryz.prog Rows.wireEncodesRow.laid w) false (laidWorld os) #[.agg Zl.toArray] 8 rfl (by kernel_rfl) (by kernel_rfl) (by kernel_rfl) (by kernel_rfl) (by kernel_rfl) (laid_met os _)) ?_
 intro W base args ds gs before hval0 hW _ _ hL _
 have hval : ∀ (j:Nat) t v,Tryz.f8.params[j]? = some t→args[j]? = some v→Value.okWide Tryz.prog W .any base t v:=hval0
 have hW':=hW
 have hlt:=fun p hp=>hW.lt p hp
 obtain ⟨p,q,hA0,hV,rfl,hfz,hnd⟩:=hW
 have hA:DataW.TrodAll enc Tryz.prog W 0 (fun _=>true) true Tryz.f8.params.toList args.toList ds p:=hA0
 rw [Tryz.params8] at hA hval
 obtain ⟨v0,d0,rfl,rfl,h0⟩:=trodAll_one hA
 obtain ⟨rfl,rfl⟩:=trodVars_none hV
 have hsz:=size_of_laid (show laidMet Tryz.prog Rows.wireEncodesRow.laid W from hL)
 have h4:4≤W.heap.size:=by rw [←globals4];exact hsz
 have hp:0<W.heap.size:=by omega
 obtain ⟨a0,rfl⟩:=open_msg (hval 0 37 v0 rfl rfl)
 clear hA0 hval0
 simp only [List.append_nil] at hW'
 obtain ⟨fu0,hf0⟩:=h0
 obtain ⟨M0,s0,n0,c0,x0,ok0,rg0⟩:=trod_msg (cs:=a0.toList) hf0
 obtain ⟨m0,rfl,rfl,w0⟩:=msg_of x0 ok0 rg0
 have X0:ej (dd W (view W)) s0 m0:=⟨x0,w0⟩
 refine (call_data' (dG.of_CC mixed XX_sound is8) [mv m0 s0] [.agg a0] W hsz (bp.cons (agg_rel c0 (dE x0 ok0).1) (bp.nil _))
  (by simp only [dy,agg_bd c0 hp,Bool.and_self]) (.bool true) rfl (dev8 (h:=dd W (view W)) h4 (gz_of (show laidMet Tryz.prog Rows.wireEncodesRow.laid W from hL)) X0)).mono fun e W' ⟨he,hbelow⟩ => ?_
 have k0:=Below.trod Tryz.laidOut (by kernel_rfl) (of_decide_eq_true (by kernel_rfl)) (⟨fu0,hf0⟩:DataW.Trod enc Tryz.prog W 0 (fun _=>true) true 37 (.agg a0) d0 p) hbelow (fun x hx=>hlt x (by simp [hx]))
 exact ⟨_,he,_,_,_,[],_,[],hW',trodAll_mk1 (shut_bool Tryz.underlying4 true),trodAll_mk1 (k0),rfl,hbelow.frame _,fun h=>by cases h⟩
set_option maxRecDepth 100000 in
theorem wireEncodes_row:Rows.WireEncodesSaid:=
 OpenClaim.holds_of_wide 8 Tryz.f8 rfl rfl rfl rfl rfl rfl rfl ⟨rfl,rfl,rfl,rfl,rfl⟩ rfl rfl rfl rfl rfl (by kernel_rfl) Tryz.func8 (by kernel_rfl)
  (of_decide_eq_true (by kernel_rfl)) (by unfold Func.isWrapper;rw [if_neg (of_decide_eq_false (by kernel_rfl))];exact ⟨rfl,rfl⟩)
  (fun os started H enc _=>wireEncodes_lifted os started H enc)
set_option maxRecDepth 100000 in
theorem wireEncodes_holds:Rows.WireEncodesCardSaid:=
 Claim7.holds_tied_plain_at .later [] [.data, .data, .data, .zero] true (true, "0899ee41fc4ac053e0d9829f184785e2061c517c4dbf149df7c606d1749d19c5") false
  wireEncodes_row (fun _ h=>by cases h) (by kernel_rfl) (fun _ h=>by cases h) wireEncodes_row_tie rfl ⟨rfl,rfl⟩ (by kernel_rfl) rfl
  (fun f fn hf hfn=>by
   obtain rfl : f = 8 := Option.some.inj ((show Tryz.prog.funcNamed "stolon/stolonlaw08.WireEncodes" = some 8 by kernel_rfl).symm.trans hf) |>.symm
   obtain rfl:fn=Tryz.f8:=(Option.some.inj (Tryz.func8.symm.trans hfn)).symm
   exact ⟨by kernel_rfl,fun j t ht=>by
    rw [Tryz.params8] at ht
    have h3:t=37:=by
     rcases j with _|j
     ·simpa using ht.symm
     ·simp at ht
    rcases h3 with rfl
    ·exact (show Tryz.prog.wantsStandIn 37=false by kernel_rfl)⟩)
  (by kernel_rfl)
end Go.Proofs.YtjghlcdidopcpaaGreatDoor

