/-
  WireStream returns true at all inputs, and leaves its arguments; the card ties the listed tables to the program's text.
  Conditions: none beyond the given statement's.
-/
import Derived.Test.YtjghlcdidopcpaaGreatDoorG14
import Derived.Test.YtjghlcdidopcpaaGreatDoorRows
import Derived.Test.YtjghlcdidopcpaaGreatDoorTie
import Derived.Test.YtjghlcdidopcpaaGreatDoorCards
import Derived.ProofKit
import Derived.LaidLaws
import Derived.LaidHandle
import Derived.SevenTiedAt
namespace Go.Proofs.YtjghlcdidopcpaaGreatDoor
open Go Go.Abs
open Go.ChangeShapes Go.WideShapes Go.ChangeAt Go.RowKit
theorem Tryz.own:ownKnob Tryz.prog.godebug=none:=by kernel_rfl
theorem Tryz.laidOut:laidOutB Tryz.prog=true:=by kernel_rfl
def cellsOfD:DataW Unit→Array Value
 | .agg l=>(l.map fun d=>match d with | .lit x=>x.value|_=>undef).toArray
 |_ => #[]
noncomputable def laidWorld (os:Os):World:=
 let w0:=World.holding Tryz.prog os ⟨#[],#[],[]⟩
 let lay (g:Nat) (d:DataW Unit) (h:Array Obj):Array Obj:=h.modify g fun
  | .cells _ t frozen => .cells (cellsOfD d) t frozen
  |o=>o
 { w0 with heap:=lay 1 Rows.laid_internal_strconv_uint64pow10 (lay 2 Rows.laid_math_bits_deBruijn32tab (lay 3 Rows.laid_math_bits_deBruijn64tab w0.heap)) }
theorem laid_met (os:Os) (args:Array Value):laidMet Tryz.prog Rows.wireStreamRow.laid ((laidWorld os).forCall (fun _ _=>0) ⟨#[],args,[]⟩).memory:=
 laidMet_of_run' 8 (by kernel_rfl) (by kernel_rfl)
theorem size_of_laid {W:World} (h:laidMet Tryz.prog Rows.wireStreamRow.laid W):Tryz.prog.globals.size≤W.heap.size:=by
 obtain ⟨ps,hl,_,_⟩:=h
 obtain ⟨_,_,_,_,_,q,_,_,_,_,hl2,_⟩:=hl
 obtain ⟨g,_,cs,_,_,_,hg,_,hv,_⟩:=hl2
 have hg3 : Tryz.prog.globalNamed "math/bits.deBruijn64tab" = some 3 := by kernel_rfl
 unfold World.var? at hv
 rw [hg3] at hv
 have hv:(match W.heap[3]? with|some (Obj.cells c _ _)=>some c|_=>none)=some cs:=hv
 have h3:3<W.heap.size:=by
  rcases Nat.lt_or_ge 3 W.heap.size with h|h
  ·exact h
  ·rw [Array.getElem?_eq_none h] at hv;cases hv
 have hsz:Tryz.prog.globals.size=4:=by kernel_rfl
 omega
theorem call_data' {P:Program} {f:FuncId} {s:List Value→ai→Out} (K:cJ P f s) (args args':List Value) (W:World) (hg:P.globals.size≤W.heap.size) (hr:bf (topMu W) args args') (hb:dp W.heap.size args=true)
  (v:Value) (hv:flat v=true) (hs : ∃ h',s args (dn W (view W))=some (v,h')):Calls P f args'.toArray W fun e W'=>e = .returned v∧Below W.heap.size W W':=by
 obtain ⟨h',hs⟩:=hs
 have hno : ∀ B,¬Own (topMu W) (dn W (view W)) B:=by
  rintro B ⟨b,k,L,hb,hk,_⟩
  rw [topHeap_new W _ hb] at hk;cases hk
 refine (K.run args _ v h' hs hb (view_bd W) hg (topMu W) W args' (view_sim W) ?_ hr).mono ?_
 ·intro b hb _
  have : ¬b<W.heap.size:=Nat.not_lt.2 hb
  unfold topMu;rw [if_neg this]
 ·rintro e W' ⟨μ',v',rfl,S,St,hv'⟩
  rw [hv'.bH hv]
  exact ⟨rfl,St.below fun B _=>hno B⟩
theorem agg_rel {W:World} {a:Array Value} {l:List Value} (h:a.toList.map (clean W.heap.size)=l) (hn:Abs.bw l=true):aP (topMu W) (.agg l.toArray) (.agg a):=by
 subst h
 refine .agg (by simp) fun i x y hx hy => ?_
 rw [List.getElem?_toArray,List.getElem?_map,Array.getElem?_toList,hy] at hx
 cases hx
 refine clean_rel ?_
 unfold Abs.bw at hn
 rw [List.all_eq_true] at hn
 have:=hn _ (List.mem_map.2 ⟨y,by rw [Array.mem_toList_iff];exact Array.mem_of_getElem? hy,rfl⟩)
 simpa using this
theorem agg_bd {W:World} {a:Array Value} {l:List Value} (h:a.toList.map (clean W.heap.size)=l) (h0:0<W.heap.size):cE W.heap.size (.agg l.toArray)=true:=by
 show dp W.heap.size l=true
 subst h
 rw [dw]
 intro x hx
 obtain ⟨y,_,rfl⟩:=List.mem_map.1 hx
 exact clean_bd h0
set_option maxRecDepth 100000 in
theorem open_msg {W:World} {base:Nat} {v:Value} (h:Value.okWide Tryz.prog W .any base 37 v) : ∃ a,v = .agg a:=by
 unfold Value.okWide at h
 rw [Tryz.underlying37] at h
 obtain ⟨cs,rfl,_⟩:=h
 exact ⟨cs,rfl⟩
set_option maxRecDepth 100000 in
theorem slice_cells {W:World} {base:Nat} {t e:TypeId} {v:Value} (ht:Tryz.prog.underlying t=some (.slice e)) (h:Value.okWide Tryz.prog W .any base t v):v.cells.toList = [v]:=by
 unfold Value.okWide at h
 rw [ht] at h
 unfold Cell.okWide at h
 rw [ht] at h
 simp only at h
 unfold Cell.ok at h
 rw [ht] at h
 cases v with
 |slice a l c=>rfl
 |_=>simp at h
set_option maxRecDepth 100000 in
theorem wireStream_lifted (os:Os) (started:os.Started) (H:Type) (enc:TypeId×Value→H) :
  ReturnsInHanded {} Tryz.checked os 11 .any (fun w args=>(Rows.wireStreamSpec.pre enc Tryz.prog Tryz.f11 [] false w args∧laidMetH Tryz.prog Rows.wireStreamRow.laid w)∧sizedMet enc Tryz.prog Tryz.f11 (OpenSpec.ofChange Rows.wireStreamSpec) false w args)
   (Rows.wireStreamSpec.post enc Tryz.prog Tryz.f11 false true false false):=by
 refine returnsInHanded_of_change_and (C:=Tryz.checked) (X:=fun w _=>laidMetH Tryz.prog Rows.wireStreamRow.laid w) (fun _ _ _ hh h=>h.of_heap hh) Tryz.own started (by kernel_rfl) Tryz.func11
  (ChangeSpec.witness_at (enc:=enc) (C:=Tryz.checked) (os:=os) (X:=fun w _=>laidMetH Tryz.prog Rows.wireStreamRow.laid w) false (laidWorld os) #[.slice none 0 0,.int .u16 0] 8 rfl (by kernel_rfl) (by kernel_rfl) (by kernel_rfl) (by kernel_rfl) (by kernel_rfl) (laid_met os _)) ?_
 intro W base args ds gs before hval0 hW _ _ hL _
 have hval : ∀ (j:Nat) t v,Tryz.f11.params[j]? = some t→args[j]? = some v→Value.okWide Tryz.prog W .any base t v:=hval0
 have hW':=hW
 have hlt:=fun p hp=>hW.lt p hp
 obtain ⟨p,q,hA0,hV,rfl,hfz,hnd⟩:=hW
 have hA:DataW.TrodAll enc Tryz.prog W 0 (fun _=>true) true Tryz.f11.params.toList args.toList ds p:=hA0
 rw [Tryz.params11] at hA hval
 obtain ⟨v0,v1,d0,d1,p0,p1,rfl,rfl,rfl,h0,h1⟩:=trodAll_two hA
 obtain ⟨rfl,rfl⟩:=trodVars_none hV
 have hsz:=size_of_laid (show laidMet Tryz.prog Rows.wireStreamRow.laid W from hL)
 have h4:4≤W.heap.size:=by rw [←globals4];exact hsz
 have hp:0<W.heap.size:=by omega
 have hc0:=slice_cells Tryz.underlying62 (hval 0 62 v0 rfl rfl)
 obtain ⟨a1,rfl,rfl,rfl,wa1⟩:=open_int Tryz.underlying65 (hval 1 65 v1 rfl rfl) h1
 clear hA0 hval0
 simp only [List.append_nil] at hW'
 obtain ⟨fu0,hf0⟩:=h0
 have hf0':=hf0
 rw [hc0] at hf0'
 obtain ⟨hh0,ms0,ad0,cp0,e0,X0,w0⟩:=msgs_of hf0'
 have q0r:=clean_rel (W:=W) hh0
 have q0b:=clean_bd (v:=v0) hp
 rw [e0] at q0r q0b
 refine (call_data' (cJ.of_CC mixed XX_sound is11) [.slice ad0 ms0.length cp0,.int .u16 a1] [v0,.int .u16 a1] W hsz (bf.cons q0r (bf.cons (.flat rfl) (bf.nil _)))
  (by simp only [dp,q0b,bdV_flat (n:=W.heap.size) (v := .int .u16 a1) rfl,Bool.and_self]) (.bool true) rfl (dev11 (h:=dn W (view W)) h4 X0 w0 wa1)).mono fun e W' ⟨he,hbelow⟩ => ?_
 have k0:=Below.trod Tryz.laidOut (by kernel_rfl) (of_decide_eq_true (by kernel_rfl)) (⟨fu0,hf0⟩:DataW.Trod enc Tryz.prog W 0 (fun _=>true) true 62 v0 d0 p0) hbelow (fun x hx=>hlt x (by simp [hx]))
 exact ⟨_,he,_,_,_,[],_,[],hW',trodAll_mk1 (shut_bool Tryz.underlying4 true),trodAll_mk2 (k0) (shut_int Tryz.underlying65 wa1),rfl,hbelow.frame _,fun h=>by cases h⟩
set_option maxRecDepth 100000 in
theorem wireStream_row:Rows.WireStreamSaid:=
 OpenClaim.holds_of_wide 11 Tryz.f11 rfl rfl rfl rfl rfl rfl rfl ⟨rfl,rfl,rfl,rfl,rfl⟩ rfl rfl rfl rfl rfl (by kernel_rfl) Tryz.func11 (by kernel_rfl)
  (of_decide_eq_true (by kernel_rfl)) (by unfold Func.isWrapper;rw [if_neg (of_decide_eq_false (by kernel_rfl))];exact ⟨rfl,rfl⟩)
  (fun os started H enc _=>wireStream_lifted os started H enc)
set_option maxRecDepth 100000 in
theorem wireStream_holds:Rows.WireStreamCardSaid:=
 Claim7.holds_tied_plain_at .later [] [.data, .data, .data] true (true, "0899ee41fc4ac053e0d9829f184785e2061c517c4dbf149df7c606d1749d19c5") false
  wireStream_row (fun _ h=>by cases h) (by kernel_rfl) (fun _ h=>by cases h) wireStream_row_tie rfl ⟨rfl,rfl⟩ (by kernel_rfl) rfl
  (fun f fn hf hfn=>by
   obtain rfl : f = 11 := Option.some.inj ((show Tryz.prog.funcNamed "stolon/stolonlaw08.WireStream" = some 11 by kernel_rfl).symm.trans hf) |>.symm
   obtain rfl:fn=Tryz.f11:=(Option.some.inj (Tryz.func11.symm.trans hfn)).symm
   exact ⟨by kernel_rfl,fun j t ht=>by
    rw [Tryz.params11] at ht
    have h3:t=62∨t=65:=by
     rcases j with _|_|j
     ·exact .inl (by simpa using ht.symm)
     ·exact .inr (by simpa using ht.symm)
     ·simp at ht
    rcases h3 with rfl|rfl
    ·exact (show Tryz.prog.wantsStandIn 62=false by kernel_rfl)
    ·exact (show Tryz.prog.wantsStandIn 65=false by kernel_rfl)⟩)
  (by kernel_rfl)
end Go.Proofs.YtjghlcdidopcpaaGreatDoor

