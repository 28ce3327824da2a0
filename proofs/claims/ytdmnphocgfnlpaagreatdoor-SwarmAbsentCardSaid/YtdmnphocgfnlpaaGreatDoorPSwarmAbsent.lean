/-
  SwarmAbsent returns true at all inputs, and leaves its arguments; the card ties the listed tables to the program's text.
  Conditions: none beyond the given statement's.
-/
import Derived.Test.YtdmnphocgfnlpaaGreatDoorG20
import Derived.Test.YtdmnphocgfnlpaaGreatDoorRows
import Derived.Test.YtdmnphocgfnlpaaGreatDoorTie
import Derived.Test.YtdmnphocgfnlpaaGreatDoorCards
import Derived.ProofKit
import Derived.LaidLaws
import Derived.LaidHandle
import Derived.SevenTiedAt
namespace Go.Proofs.YtdmnphocgfnlpaaGreatDoor
open Go Go.Abs
open Go.ChangeShapes Go.WideShapes Go.ChangeAt Go.RowKit

theorem Tryz.own : ownKnob Tryz.prog.godebug = none := by kernel_rfl
theorem Tryz.laidOut : laidOutB Tryz.prog = true := by kernel_rfl
def cellsOfD : DataW Unit → Array Value
  | .agg l => (l.map fun d => match d with | .lit x => x.value | _ => undef).toArray
  | _ => #[]
noncomputable def laidWorld (os : Os) : World :=
  let w0 := World.holding Tryz.prog os ⟨#[], #[], []⟩
  let lay (g : Nat) (d : DataW Unit) (h : Array Obj) : Array Obj := h.modify g fun
    | .cells _ t frozen => .cells (cellsOfD d) t frozen
    | o => o
  { w0 with heap := lay 1 Rows.laid_stolon_digest_rounds w0.heap }
theorem laid_met (os : Os) (args : Array Value) : laidMet Tryz.prog Rows.swarmAbsentRow.laid ((laidWorld os).forCall (fun _ _ => 0) ⟨#[], args, []⟩).memory :=
  laidMet_of_run' 8 (by kernel_rfl) (by kernel_rfl)
theorem size_of_laid {W : World} (h : laidMet Tryz.prog Rows.swarmAbsentRow.laid W) : Tryz.prog.globals.size ≤ W.heap.size := by
  obtain ⟨ps, hl, _, _⟩ := h
  obtain ⟨g, _, cs, _, _, _, hg, _, hv, _⟩ := hl
  have hg3 : Tryz.prog.globalNamed "stolon/digest.rounds" = some 1 := by kernel_rfl
  unfold World.var? at hv
  rw [hg3] at hv
  have hv : (match W.heap[1]? with | some (Obj.cells c _ _) => some c | _ => none) = some cs := hv
  have h3 : 1 < W.heap.size := by
    rcases Nat.lt_or_ge 1 W.heap.size with h | h
    · exact h
    · rw [Array.getElem?_eq_none h] at hv; cases hv
  have hsz : Tryz.prog.globals.size = 2 := by kernel_rfl
  omega
theorem gz_of {W : World} (h : laidMet Tryz.prog Rows.swarmAbsentRow.laid W) : (topHeap W (view W)).get 1 = some roundsL := by
  obtain ⟨ps, hl, _, _⟩ := h
  obtain ⟨g, t, cs, fuel, p, q, hg, ht, hv, htr, _, _⟩ := hl
  have hg0 : Tryz.prog.globalNamed "stolon/digest.rounds" = some 1 := by kernel_rfl
  rw [hg0] at hg
  obtain rfl := Option.some.inj hg
  have ht0 : (Tryz.prog.globals[1]?).map (·.type) = some 543 := by kernel_rfl
  rw [ht0] at ht
  obtain rfl := Option.some.inj ht
  unfold World.var? at hv
  rw [hg0] at hv
  have hv : (match W.heap[1]? with | some (Obj.cells c _ _) => some c | _ => none) = some cs := hv
  have hc := rounds_cells (by kernel_rfl) htr
  rw [view_get]
  unfold view
  split at hv
  · rename_i c T fr hw
    cases hv
    rw [hw]
    show some (List.map _ _) = _
    rw [hc, rounds_clean]
  · cases hv
/-- A call with arguments that lead into memory. -/
theorem call_data' {P : Program} {f : FuncId} {s : List Value → Heap → Out} (K : Contract P f s) {fn : Func} (hfn : P.funcs[f]? = some fn) (hnm : (fn.name == "runtime.NumGoroutine") = false) (hbn : fn.body.isNone = false) (args args' : List Value) (W : World) (hg : P.globals.size ≤ W.heap.size) (hr : LRel (topMu W) args args') (hb : bdL W.heap.size args = true)
    (v : Value) (hv : flat v = true) (hs : ∃ h', s args (topHeap W (view W)) = some (v, h')) : Calls P f args'.toArray W fun e W' => e = .returned v ∧ Below W.heap.size W W' := by
  obtain ⟨h', hs⟩ := hs
  have hno : ∀ B, ¬ Go.Abs.Own (topMu W) (topHeap W (view W)) B := by
    rintro B ⟨b, k, L, hb, hk, _⟩
    rw [topHeap_new W _ hb] at hk; cases hk
  refine ((K.run args _ v h' hs hb (view_bd W) hg (topMu W) W args' (view_sim W) ?_ hr).calls hfn hnm hbn).mono ?_
  · intro b hb _
    have : ¬ b < W.heap.size := Nat.not_lt.2 hb
    unfold topMu; rw [if_neg this]
  · rintro e W' ⟨μ', v', rfl, S, St, hv'⟩
    rw [hv'.flat_eq hv]
    exact ⟨rfl, St.below fun B _ => hno B⟩
theorem agg_rel {W : World} {a : Array Value} {l : List Value} (h : a.toList.map (clean W.heap.size) = l) (hn : Abs.noHoles l = true) : VRel (topMu W) (.agg l.toArray) (.agg a) := by
  subst h
  refine .agg (by simp) fun i x y hx hy => ?_
  rw [List.getElem?_toArray, List.getElem?_map, Array.getElem?_toList, hy] at hx
  cases hx
  refine clean_rel ?_
  unfold Abs.noHoles at hn
  rw [List.all_eq_true] at hn
  have := hn _ (List.mem_map.2 ⟨y, by rw [Array.mem_toList_iff]; exact Array.mem_of_getElem? hy, rfl⟩)
  simpa using this
theorem agg_bd {W : World} {a : Array Value} {l : List Value} (h : a.toList.map (clean W.heap.size) = l) (h0 : 0 < W.heap.size) : bdV W.heap.size (.agg l.toArray) = true := by
  show bdL W.heap.size l = true
  subst h
  rw [bdL_iff]
  intro x hx
  obtain ⟨y, _, rfl⟩ := List.mem_map.1 hx
  exact clean_bd h0
set_option maxRecDepth 100000 in
theorem open_set {W : World} {base : Nat} {v : Value} (h : Value.okWide Tryz.prog W .any base 23 v) : ∃ a, v = .agg a := by
  unfold Value.okWide at h
  rw [Tryz.underlying23] at h
  obtain ⟨cs, rfl, _⟩ := h
  exact ⟨cs, rfl⟩
set_option maxRecDepth 100000 in
theorem open_evt {W : World} {base : Nat} {v : Value} (h : Value.okWide Tryz.prog W .any base 30 v) : ∃ a, v = .agg a := by
  unfold Value.okWide at h
  rw [Tryz.underlying30] at h
  obtain ⟨cs, rfl, _⟩ := h
  exact ⟨cs, rfl⟩
set_option maxRecDepth 100000 in
theorem slice_cells {W : World} {base : Nat} {t e : TypeId} {v : Value} (ht : Tryz.prog.underlying t = some (.slice e)) (h : Value.okWide Tryz.prog W .any base t v) : v.cells.toList = [v] := by
  unfold Value.okWide at h
  rw [ht] at h
  unfold Cell.okWide at h
  rw [ht] at h
  simp only at h
  unfold Cell.ok at h
  rw [ht] at h
  cases v with
  | slice a l c => rfl
  | _ => simp at h
set_option maxRecDepth 100000 in
theorem swarmAbsent_lifted (os : Os) (started : os.Started) (H : Type) (enc : TypeId × Value → H) :
    ReturnsInHanded {} Tryz.checked os 7 .any (fun w args => (Rows.swarmAbsentSpec.pre enc Tryz.prog Tryz.f7 [] false w args ∧ laidMetH Tryz.prog Rows.swarmAbsentRow.laid w) ∧ sizedMet enc Tryz.prog Tryz.f7 (OpenSpec.ofChange Rows.swarmAbsentSpec) false w args)
      (Rows.swarmAbsentSpec.post enc Tryz.prog Tryz.f7 false true false false) := by
  refine returnsInHanded_of_change_and (C := Tryz.checked) (X := fun w _ => laidMetH Tryz.prog Rows.swarmAbsentRow.laid w) (fun _ _ _ hh h => h.of_heap hh) Tryz.own started (by kernel_rfl) Tryz.func7
    (ChangeSpec.witness_at (enc := enc) (C := Tryz.checked) (os := os) (X := fun w _ => laidMetH Tryz.prog Rows.swarmAbsentRow.laid w) false (laidWorld os) #[.int .i64 0, .agg #[.int .u8 0, .int .i64 0, .int .i64 0, .int .i64 0, .int .u64 0, .slice none 0 0]] 8 rfl (by kernel_rfl) (by kernel_rfl) (by kernel_rfl) (by kernel_rfl) (by kernel_rfl) (laid_met os _)) ?_
  intro W base args ds gs before hval0 hW _ _ hL _
  have hval : ∀ (j : Nat) t v, Tryz.f7.params[j]? = some t → args[j]? = some v → Value.okWide Tryz.prog W .any base t v := hval0
  have hW' := hW
  have hlt := fun p hp => hW.lt p hp
  obtain ⟨p, q, hA0, hV, rfl, hfz, hnd⟩ := hW
  have hA : DataW.TrodAll enc Tryz.prog W 0 (fun _ => true) true Tryz.f7.params.toList args.toList ds p := hA0
  rw [Tryz.params7] at hA hval
  obtain ⟨v0, v1, d0, d1, p0, p1, rfl, rfl, rfl, h0, h1⟩ := trodAll_two hA
  obtain ⟨rfl, rfl⟩ := trodVars_none hV
  have hsz := size_of_laid (show laidMet Tryz.prog Rows.swarmAbsentRow.laid W from hL)
  have h4 : 2 ≤ W.heap.size := by rw [← globals2]; exact hsz
  have hp : 0 < W.heap.size := by omega
  obtain ⟨i0, hi0, -, -, wf0⟩ := open_int Tryz.underlying3 (hval 0 3 v0 rfl rfl) h0
  subst hi0
  obtain ⟨a1, rfl⟩ := open_evt (hval 1 30 v1 rfl rfl)
  clear hA0 hval0
  simp only [List.append_nil] at hW'
  obtain ⟨fu0, hf0⟩ := h0
  obtain ⟨fu1, hf1⟩ := h1
  obtain ⟨_, e1, we1, at1⟩ := trod_ev (show DataW.trod enc Tryz.prog W 0 (fun _ => true) true fu1 30 a1.toList = _ from hf1)
  have nh1 : Abs.noHoles (a1.toList.map (clean W.heap.size)) = true := by obtain ⟨_, _, h1, _⟩ := at1; rw [h1]; rfl
  have hz := gz_of (show laidMet Tryz.prog Rows.swarmAbsentRow.laid W from hL)
  refine (call_data' (Contract.of_CC prog_mixed XX_sound is7) Tryz.func7 (by kernel_rfl) (by kernel_rfl) [.int .i64 i0, .agg (a1.toList.map (clean W.heap.size)).toArray] [.int .i64 i0, .agg a1] W hsz (LRel.cons (rel_int _ i0) (LRel.cons (agg_rel rfl nh1) (LRel.nil _)))
    (by simp only [bdL, show bdV W.heap.size (.int .i64 i0) = true from rfl, agg_bd (a := a1) rfl hp, Bool.and_self]) (.bool true) rfl (r7 (h := topHeap W (view W)) h4 hz i0 at1)).mono fun e W' ⟨he, hbelow⟩ => ?_
  have k0 := Below.trod Tryz.laidOut (by kernel_rfl) (of_decide_eq_true (by kernel_rfl)) (⟨fu0, hf0⟩ : DataW.Trod enc Tryz.prog W 0 (fun _ => true) true 3 (.int .i64 i0) d0 p0) hbelow (fun x hx => hlt x (by simp [hx]))
  have k1 := Below.trod Tryz.laidOut (by kernel_rfl) (of_decide_eq_true (by kernel_rfl)) (⟨fu1, hf1⟩ : DataW.Trod enc Tryz.prog W 0 (fun _ => true) true 30 (.agg a1) d1 p1) hbelow (fun x hx => hlt x (by simp [hx]))
  exact ⟨_, he, _, _, _, [], _, [], hW', trodAll_mk1 (shut_bool Tryz.underlying4 true), trodAll_mk2 (k0) (k1), rfl, hbelow.frame _, fun h => by cases h⟩

set_option maxRecDepth 100000 in
theorem swarmAbsent_row : Rows.SwarmAbsentSaid :=
  OpenClaim.holds_of_wide 7 Tryz.f7 rfl rfl rfl rfl rfl rfl rfl ⟨rfl, rfl, rfl, rfl, rfl⟩ rfl rfl rfl rfl rfl (by as_aux_lemma => kernel_rfl) Tryz.func7 swarmAbsent_facts
    (of_decide_eq_true (by as_aux_lemma => kernel_rfl)) (by unfold Func.isWrapper; rw [if_neg (of_decide_eq_false (by as_aux_lemma => kernel_rfl))]; exact ⟨rfl, rfl⟩)
    (fun os started H enc _ => swarmAbsent_lifted os started H enc)

set_option maxRecDepth 100000 in
theorem swarmAbsent_holds : Rows.SwarmAbsentCardSaid :=
  Claim7.holds_tied_plain_at .later [] [.data] true (true, "ee15f8fce87ffaa5537e1712275f8b1d155c9bd10e9c1acb0a7e0f954d72e106") true
    swarmAbsent_row (fun _ h => by cases h) (by as_aux_lemma => kernel_rfl) (fun _ h => by cases h) swarmAbsent_row_tie rfl ⟨rfl, rfl⟩ (by as_aux_lemma => kernel_rfl) rfl
    (fun f fn hf hfn => by
      obtain rfl : f = 7 := Option.some.inj ((show Tryz.prog.funcNamed "stolon/stolonlaw10.SwarmAbsent" = some 7 by kernel_rfl).symm.trans hf) |>.symm
      obtain rfl : fn = Tryz.f7 := (Option.some.inj (Tryz.func7.symm.trans hfn)).symm
      exact ⟨by as_aux_lemma => kernel_rfl, fun j t ht => by
        rw [Tryz.params7] at ht
        have h3 : t = 3 ∨ t = 30 := by
          rcases j with _ | _ | j
          · exact .inl (by simpa using ht.symm)
          · exact .inr (by simpa using ht.symm)
          · simp at ht
        rcases h3 with rfl | rfl
        · exact (show Tryz.prog.wantsStandIn 3 = false by kernel_rfl)
        · exact (show Tryz.prog.wantsStandIn 30 = false by kernel_rfl)⟩)
    (goes_by no_goes rfl)
end Go.Proofs.YtdmnphocgfnlpaaGreatDoor

