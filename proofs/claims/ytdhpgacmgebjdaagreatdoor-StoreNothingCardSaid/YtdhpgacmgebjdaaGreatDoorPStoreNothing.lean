/-
  StoreNothing returns true at all inputs, and leaves its arguments; the card ties the listed tables to the program's text.
  Conditions: none beyond the given statement's.
-/
import Derived.Test.YtdhpgacmgebjdaaGreatDoorG24
import Derived.Test.YtdhpgacmgebjdaaGreatDoorRows
import Derived.Test.YtdhpgacmgebjdaaGreatDoorTie
import Derived.Test.YtdhpgacmgebjdaaGreatDoorCards
import Derived.ProofKit
import Derived.LaidLaws
import Derived.LaidHandle
import Derived.SevenTiedAt
namespace Go.Proofs.YtdhpgacmgebjdaaGreatDoor
open Go Go.Abs
open Go.ChangeShapes Go.WideShapes Go.ChangeAt Go.RowKit

theorem Tryz.own : ownKnob Tryz.prog.godebug = none := by kernel_rfl
theorem Tryz.laidOut : laidOutB Tryz.prog = true := by kernel_rfl
def cellsOfD : DataW Unit → Array Value
  | .agg l => (l.map fun d => match d with | .lit x => x.value | _ => undef).toArray
  | _ => #[]
noncomputable def laidWorld (os : Os) : World :=
  let w0 := World.holding Tryz.prog os ⟨#[], #[], []⟩
  let lay (g : Nat) (d : DataW Unit) (h : Array Obj) : Array Obj := h.modify g fun
    | .cells _ t frozen => .cells (cellsOfD d) t frozen
    | o => o
  { w0 with heap := lay 1 Rows.laid_stolon_digest_rounds w0.heap }
theorem laid_met (os : Os) (args : Array Value) : laidMet Tryz.prog Rows.storeNothingRow.laid ((laidWorld os).forCall (fun _ _ => 0) ⟨#[], args, []⟩).memory :=
  laidMet_of_run' 8 (by kernel_rfl) (by kernel_rfl)
theorem gz_of {W : World} (h : laidMet Tryz.prog Rows.storeNothingRow.laid W) : (topHeap W (view W)).get 1 = some roundsL := by
  obtain ⟨ps, hl, _, _⟩ := h
  obtain ⟨g, t, cs, fuel, p, q, hg, ht, hv, htr, _, _⟩ := hl
  have hg0 : Tryz.prog.globalNamed "stolon/digest.rounds" = some 1 := by kernel_rfl
  rw [hg0] at hg
  obtain rfl := Option.some.inj hg
  have ht0 : (Tryz.prog.globals[1]?).map (·.type) = some 316 := by kernel_rfl
  rw [ht0] at ht
  obtain rfl := Option.some.inj ht
  unfold World.var? at hv
  rw [hg0] at hv
  have hv : (match W.heap[1]? with | some (Obj.cells c _ _) => some c | _ => none) = some cs := hv
  have hc := rounds_cells (by kernel_rfl) htr
  rw [view_get]
  unfold view
  split at hv
  · rename_i c T fr hw
    cases hv
    rw [hw]
    show some (List.map _ _) = _
    rw [hc, rounds_clean]
  · cases hv
/-- A call with arguments that lead into memory. -/
theorem call_data' {P : Program} {f : FuncId} {s : List Value → Heap → Out} (K : Contract P f s) {fn : Func} (hfn : P.funcs[f]? = some fn) (hnm : (fn.name == "runtime.NumGoroutine") = false) (hbn : fn.body.isNone = false) (args args' : List Value) (W : World) (hg : P.globals.size ≤ W.heap.size) (hr : LRel (topMu W) args args') (hb : bdL W.heap.size args = true)
    (v : Value) (hv : flat v = true) (hs : ∃ h', s args (topHeap W (view W)) = some (v, h')) : Calls P f args'.toArray W fun e W' => e = .returned v ∧ Below W.heap.size W W' := by
  obtain ⟨h', hs⟩ := hs
  have hno : ∀ B, ¬ Go.Abs.Own (topMu W) (topHeap W (view W)) B := by
    rintro B ⟨b, k, L, hb, hk, _⟩
    rw [topHeap_new W _ hb] at hk; cases hk
  refine ((K.run args _ v h' hs hb (view_bd W) hg (topMu W) W args' (view_sim W) ?_ hr).calls hfn hnm hbn).mono ?_
  · intro b hb _
    have : ¬ b < W.heap.size := Nat.not_lt.2 hb
    unfold topMu; rw [if_neg this]
  · rintro e W' ⟨μ', v', rfl, S, St, hv'⟩
    rw [hv'.flat_eq hv]
    exact ⟨rfl, St.below fun B _ => hno B⟩
theorem agg_rel {W : World} {a : Array Value} {l : List Value} (h : a.toList.map (clean W.heap.size) = l) (hn : Abs.noHoles l = true) : VRel (topMu W) (.agg l.toArray) (.agg a) := by
  subst h
  refine .agg (by simp) fun i x y hx hy => ?_
  rw [List.getElem?_toArray, List.getElem?_map, Array.getElem?_toList, hy] at hx
  cases hx
  refine clean_rel ?_
  unfold Abs.noHoles at hn
  rw [List.all_eq_true] at hn
  have := hn _ (List.mem_map.2 ⟨y, by rw [Array.mem_toList_iff]; exact Array.mem_of_getElem? hy, rfl⟩)
  simpa using this
theorem agg_bd {W : World} {a : Array Value} {l : List Value} (h : a.toList.map (clean W.heap.size) = l) (h0 : 0 < W.heap.size) : bdV W.heap.size (.agg l.toArray) = true := by
  show bdL W.heap.size l = true
  subst h
  rw [bdL_iff]
  intro x hx
  obtain ⟨y, _, rfl⟩ := List.mem_map.1 hx
  exact clean_bd h0
set_option maxRecDepth 100000 in
theorem open_op {W : World} {base : Nat} {v : Value} (h : Value.okWide Tryz.prog W .any base 54 v) : ∃ a, v = .agg a := by
  unfold Value.okWide at h
  rw [Tryz.underlying54] at h
  obtain ⟨cs, rfl, _⟩ := h
  exact ⟨cs, rfl⟩
set_option maxRecDepth 100000 in
theorem slice_cells {W : World} {base : Nat} {t e : TypeId} {v : Value} (ht : Tryz.prog.underlying t = some (.slice e)) (h : Value.okWide Tryz.prog W .any base t v) : v.cells.toList = [v] := by
  unfold Value.okWide at h
  rw [ht] at h
  unfold Cell.okWide at h
  rw [ht] at h
  simp only at h
  unfold Cell.ok at h
  rw [ht] at h
  cases v with
  | slice a l c => rfl
  | _ => simp at h
set_option maxRecDepth 100000 in
theorem storeNothing_lifted (os : Os) (started : os.Started) (H : Type) (enc : TypeId × Value → H) :
    ReturnsInHanded {} Tryz.checked os 6 .any (fun w args => (Rows.storeNothingSpec.pre enc Tryz.prog Tryz.f6 [] false w args ∧ laidMetH Tryz.prog Rows.storeNothingRow.laid w) ∧ sizedMet enc Tryz.prog Tryz.f6 (OpenSpec.ofChange Rows.storeNothingSpec) false w args)
      (Rows.storeNothingSpec.post enc Tryz.prog Tryz.f6 false true false false) := by
  refine handed_sized (C := Tryz.checked) rfl (X := fun w _ => laidMetH Tryz.prog Rows.storeNothingRow.laid w) (fun _ _ _ _ _ h => ChangeSpec.post_blind h) (fun _ _ _ hh h => h.of_heap hh) Tryz.own started (by kernel_rfl) Tryz.func6
    (ChangeSpec.witness_at (enc := enc) (C := Tryz.checked) (os := os) (X := fun w _ => laidMetH Tryz.prog Rows.storeNothingRow.laid w) false (laidWorld os) #[.agg (([.int .i64 0, .int .i64 0, .int .i64 0, .int .u64 0] ++ List.replicate 32 (.int .u8 0) ++ [.int .i64 0, .int .i64 0, .int .i64 0, .int .i64 0] ++ List.replicate 32 (.int .u8 0) ++ [.slice none 0 0, .int .i64 0, .slice none 0 0, .int .u8 0] : List Value)).toArray] 8 rfl (by kernel_rfl) (by kernel_rfl) (by kernel_rfl) (by kernel_rfl) (by kernel_rfl) (laid_met os _)) ?_
  intro W base args ds gs before hsz3 hval0 hW hL
  have hsz : Tryz.prog.globals.size ≤ W.heap.size := by rw [globals3]; exact hsz3
  have hval : ∀ (j : Nat) t v, Tryz.f6.params[j]? = some t → args[j]? = some v → Value.okWide Tryz.prog W .any base t v := hval0
  have hW' := hW
  have hlt := fun p hp => hW.lt p hp
  obtain ⟨p, q, hA0, hV, rfl, hfz, hnd⟩ := hW
  have hA : DataW.TrodAll enc Tryz.prog W 0 (fun _ => true) true Tryz.f6.params.toList args.toList ds p := hA0
  rw [Tryz.params6] at hA hval
  obtain ⟨v0, d0, rfl, rfl, h0⟩ := trodAll_one hA
  obtain ⟨rfl, rfl⟩ := trodVars_none hV
  have hp : 0 < W.heap.size := by omega
  obtain ⟨a0, rfl⟩ := open_op (hval 0 54 v0 rfl rfl)
  clear hA0 hval0
  simp only [List.append_nil] at hW'
  obtain ⟨fu0, hf0⟩ := h0
  have ad := ArgD.of (show DataW.trod enc Tryz.prog W 0 (fun _ => true) true fu0 54 a0.toList = _ from hf0)
  have hz := gz_of (show laidMet Tryz.prog Rows.storeNothingRow.laid W from hL)
  refine (call_data' (Contract.of_CC prog_mixed XX_sound isn6) Tryz.func6 (by kernel_rfl) (by kernel_rfl) [.agg (a0.toList.map (clean W.heap.size)).toArray] [.agg a0] W hsz (LRel.cons (agg_rel rfl ad.nh) (LRel.nil _))
    (by simp only [bdL, agg_bd rfl hp, Bool.and_self]) (.bool true) rfl (r6 (h := topHeap W (view W)) hsz3 hz ad)).mono fun e W' ⟨he, hbelow⟩ => ?_
  have k0 := Below.trod Tryz.laidOut (by kernel_rfl) (of_decide_eq_true (by kernel_rfl)) (⟨fu0, hf0⟩ : DataW.Trod enc Tryz.prog W 0 (fun _ => true) true 54 (.agg a0) d0 p) hbelow (fun x hx => hlt x (by simp [hx]))
  exact ⟨_, he, _, _, _, [], _, [], hW', trodAll_mk1 (shut_bool Tryz.underlying4 true), trodAll_mk1 (k0), rfl, hbelow.frame _, fun h => by cases h⟩

set_option maxRecDepth 100000 in
theorem storeNothing_row : Rows.StoreNothingSaid :=
  OpenClaim.holds_of_wide 6 Tryz.f6 rfl rfl rfl rfl rfl rfl rfl ⟨rfl, rfl, rfl, rfl, rfl⟩ rfl rfl rfl rfl rfl (by as_aux_lemma => kernel_rfl) Tryz.func6 storeNothing_facts
    (of_decide_eq_true (by kernel_rfl)) (by unfold Func.isWrapper; rw [if_neg (of_decide_eq_false (by kernel_rfl))]; exact ⟨rfl, rfl⟩)
    (fun os started H enc _ => storeNothing_lifted os started H enc)

set_option maxRecDepth 100000 in
theorem storeNothing_holds : Rows.StoreNothingCardSaid :=
  Claim7.holds_tied_plain_at .later [] [.data] true (true, "b7b752e8c9a5e777f4f00378967cb2b66c69ea28f80c9c613c3d360cc41a4a50") true
    storeNothing_row (fun _ h => by cases h) (by kernel_rfl) (fun _ h => by cases h) storeNothing_row_tie rfl ⟨rfl, rfl⟩ (by kernel_rfl) rfl
    (fun f fn hf hfn => by
      obtain rfl : f = 6 := Option.some.inj ((show Tryz.prog.funcNamed "stolon/stolonlaw04.StoreNothing" = some 6 by kernel_rfl).symm.trans hf) |>.symm
      obtain rfl : fn = Tryz.f6 := (Option.some.inj (Tryz.func6.symm.trans hfn)).symm
      exact ⟨by kernel_rfl, fun j t ht => by
        rw [Tryz.params6] at ht
        have h3 : t = 54 := by
          rcases j with _ | j
          · simpa using ht.symm
          · simp at ht
        rcases h3 with rfl
        · exact (show Tryz.prog.wantsStandIn 54 = false by kernel_rfl)⟩)
    (goes_by no_goes rfl)
end Go.Proofs.YtdhpgacmgebjdaaGreatDoor

