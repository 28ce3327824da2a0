/-
  WireNames returns true at every kind, and leaves its argument: the row, and the card that ties the listed tables to the program's text.
  Conditions: none beyond the given statement's.
-/
import Derived.Test.YtjghlcdidopcpaaGreatDoorPWireNames
namespace Go.Proofs.YtjghlcdidopcpaaGreatDoor
open Go Go.Abs

set_option maxRecDepth 100000 in
theorem wireNames_row : Rows.WireNamesSaid :=
  OpenClaim.holds_of_wide 4 Tryz.f4 rfl rfl rfl rfl rfl rfl rfl ⟨rfl, rfl, rfl, rfl, rfl⟩ rfl rfl rfl rfl rfl (by kernel_rfl) Tryz.func4 (by kernel_rfl)
    (of_decide_eq_true (by kernel_rfl)) (by unfold Func.isWrapper; rw [if_neg (of_decide_eq_false (by kernel_rfl))]; exact ⟨rfl, rfl⟩)
    (fun os started H enc _ => wireNames_lifted os started H enc)

set_option maxRecDepth 100000 in
theorem wireNames_holds : Rows.WireNamesCardSaid :=
  Claim7.holds_tied_plain_at .later [] [.data, .data, .data] true (true, "0899ee41fc4ac053e0d9829f184785e2061c517c4dbf149df7c606d1749d19c5") false
    wireNames_row (fun _ h => by cases h) (by kernel_rfl) (fun _ h => by cases h) wireNames_row_tie rfl ⟨rfl, rfl⟩ (by kernel_rfl) rfl
    (fun f fn hf hfn => by
      obtain rfl : f = 4 := Option.some.inj ((show Tryz.prog.funcNamed "stolon/stolonlaw08.WireNames" = some 4 by kernel_rfl).symm.trans hf) |>.symm
      obtain rfl : fn = Tryz.f4 := (Option.some.inj (Tryz.func4.symm.trans hfn)).symm
      exact ⟨by kernel_rfl, fun j t ht => by
        rw [Tryz.params4] at ht
        have h3 : t = 24 := by
          rcases j with _ | j
          · simpa using ht.symm
          · simp at ht
        subst h3
        exact (show Tryz.prog.wantsStandIn 24 = false by kernel_rfl)⟩)
    (by kernel_rfl)
end Go.Proofs.YtjghlcdidopcpaaGreatDoor

