/-
  WireNames returns true at every kind, and leaves its argument; the card ties the listed tables to the program's text.
  Conditions: none beyond the given statement's.
-/
import Derived.Test.YtjghlcdidopcpaaGreatDoorWN1
import Derived.Test.YtjghlcdidopcpaaGreatDoorRows
import Derived.Test.YtjghlcdidopcpaaGreatDoorTie
import Derived.Test.YtjghlcdidopcpaaGreatDoorCards
import Derived.ProofKit
import Derived.LaidLaws
import Derived.LaidHandle
import Derived.SevenTiedAt
namespace Go.Proofs.YtjghlcdidopcpaaGreatDoor
open Go Go.Abs
open Go.ChangeShapes Go.WideShapes Go.ChangeAt Go.RowKit

theorem Tryz.own : ownKnob Tryz.prog.godebug = none := by kernel_rfl
def cellsOfD : DataW Unit → Array Value
  | .agg l => (l.map fun d => match d with | .lit x => x.value | _ => undef).toArray
  | _ => #[]
noncomputable def laidWorld (os : Os) : World :=
  let w0 := World.holding Tryz.prog os ⟨#[], #[], []⟩
  let lay (g : Nat) (d : DataW Unit) (h : Array Obj) : Array Obj := h.modify g fun
    | .cells _ t frozen => .cells (cellsOfD d) t frozen
    | o => o
  { w0 with heap := lay 1 Rows.laid_internal_strconv_uint64pow10 (lay 2 Rows.laid_math_bits_deBruijn32tab (lay 3 Rows.laid_math_bits_deBruijn64tab w0.heap)) }
theorem laid_met (os : Os) (args : Array Value) : laidMet Tryz.prog Rows.wireNamesRow.laid ((laidWorld os).forCall (fun _ _ => 0) ⟨#[], args, []⟩).memory :=
  laidMet_of_run' 8 (by kernel_rfl) (by kernel_rfl)

/-- The listed tables are there: so are all variables. -/
theorem size_of_laid {W : World} (h : laidMet Tryz.prog Rows.wireNamesRow.laid W) : Tryz.prog.globals.size ≤ W.heap.size := by
  obtain ⟨ps, hl, _, _⟩ := h
  obtain ⟨_, _, _, _, _, q, _, _, _, _, hl2, _⟩ := hl
  obtain ⟨g, _, cs, _, _, _, hg, _, hv, _⟩ := hl2
  have hg3 : Tryz.prog.globalNamed "math/bits.deBruijn64tab" = some 3 := by kernel_rfl
  unfold World.var? at hv
  rw [hg3] at hv
  have hv : (match W.heap[3]? with | some (Obj.cells c _ _) => some c | _ => none) = some cs := hv
  have h3 : 3 < W.heap.size := by
    rcases Nat.lt_or_ge 3 W.heap.size with h | h
    · exact h
    · rw [Array.getElem?_eq_none h] at hv; cases hv
  have hsz : Tryz.prog.globals.size = 4 := by kernel_rfl
  omega

set_option maxRecDepth 100000 in
theorem wireNames_lifted (os : Os) (started : os.Started) (H : Type) (enc : TypeId × Value → H) :
    ReturnsInHanded {} Tryz.checked os 4 .any (fun w args => (Rows.wireNamesSpec.pre enc Tryz.prog Tryz.f4 [] false w args ∧ laidMetH Tryz.prog Rows.wireNamesRow.laid w) ∧ sizedMet enc Tryz.prog Tryz.f4 (OpenSpec.ofChange Rows.wireNamesSpec) false w args)
      (Rows.wireNamesSpec.post enc Tryz.prog Tryz.f4 false true false false) := by
  refine returnsInHanded_of_change_and (C := Tryz.checked) (X := fun w _ => laidMetH Tryz.prog Rows.wireNamesRow.laid w) (fun _ _ _ hh h => h.of_heap hh) Tryz.own started (by kernel_rfl) Tryz.func4
    (ChangeSpec.witness_at (enc := enc) (C := Tryz.checked) (os := os) (X := fun w _ => laidMetH Tryz.prog Rows.wireNamesRow.laid w) false (laidWorld os) #[.int .u8 0] 8 rfl (by kernel_rfl) (by kernel_rfl) (by kernel_rfl) (by kernel_rfl) (by kernel_rfl) (laid_met os _)) ?_
  intro W base args ds gs before hval0 hW _ _ hL _
  have hval : ∀ (j : Nat) t v, Tryz.f4.params[j]? = some t → args[j]? = some v → Value.okWide Tryz.prog W .any base t v := hval0
  have hW' := hW
  obtain ⟨p, q, hA0, hV, rfl, hfz, hnd⟩ := hW
  have hA : DataW.TrodAll enc Tryz.prog W 0 (fun _ => true) true Tryz.f4.params.toList args.toList ds p := hA0
  rw [Tryz.params4] at hA hval
  obtain ⟨v0, d0, rfl, rfl, h0⟩ := trodAll_one hA
  obtain ⟨rfl, rfl⟩ := trodVars_none hV
  obtain ⟨a, rfl, rfl, rfl, wa⟩ := open_int Tryz.underlying24 (hval 0 24 v0 rfl rfl) h0
  clear hA0 hval0
  simp only [List.append_nil] at hW'
  obtain ⟨k, rfl, hk⟩ : ∃ k : Nat, a = k ∧ k < 256 := by
    simp [Lit.wf, IntKind.min, IntKind.max, IntKind.signed, IntKind.bits] at wa
    exact ⟨a.toNat, by omega, by omega⟩
  have hL' : laidMet Tryz.prog Rows.wireNamesRow.laid W := hL
  have hs : S4 [.int .u8 ((k : Nat) : Int)] = some (.bool true) := by
    show (if k < 256 then some (Value.bool true) else none) = _
    rw [if_pos hk]
  refine (c4.call_flat' [.int .u8 ((k : Nat) : Int)] rfl (.bool true) rfl W (size_of_laid hL') ⟨topHeap W fun _ => none, by rw [hs]; rfl⟩).mono fun e W' ⟨he, hbelow⟩ => ?_
  exact ⟨_, he, _, _, _, [], _, [], hW', trodAll_mk1 (shut_bool Tryz.underlying4 true), trodAll_mk1 (shut_int Tryz.underlying24 wa), rfl, hbelow.frame _, fun h => by cases h⟩
end Go.Proofs.YtjghlcdidopcpaaGreatDoor

