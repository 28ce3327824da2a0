/-
  DERIVED. GIVEN WITH THE SEED: THE PROGRAM's TIES (one call each: nine closed facts by the kernel) AND EACH ROW's TIE, after the 31st guide's Derived/Test/Toyas{Tie, Card}.lean. No idea stands in it: it is a product of the set-up. Laid BY PROGRAM, IN A SANDBOX (cutbox-door.mjs). By AI agents, Wed Nov 11 2026. No macro, syntax, notation, axiom, sorry.
-/
import Derived.Test.YtdnahgfgoajmcaaGreatDoorRows
import Derived.LaidByTextLater
import Derived.SevenTiedAt
import Derived.LaidSub
import Derived.LaidOnce
namespace Go.Proofs.YtdnahgfgoajmcaaGreatDoor
open Go
set_option maxRecDepth 100000
theorem seatTie1 : Tryz.prog.laidByTextLater [("stolon/stolonref02.rounds", Rows.laid_stolon_stolonref02_rounds), ("stolon/digest.rounds", Rows.laid_stolon_digest_rounds), ("stolon/stolonref06.zero", Rows.laid_stolon_stolonref06_zero)] [.data, .data, .zero] true :=
  Program.laidByTextLater_by_one 19 8 65 (by kernel_rfl) (by kernel_rfl) (by kernel_rfl) (by kernel_rfl) (by kernel_rfl) (by kernel_rfl) (fun _ _ => by kernel_rfl)
theorem noOwnUnsafe : Tryz.pinned.checked.prog.headLifts.contains "ownunsafe" = false := by kernel_rfl
theorem tie : Tryz.prog.laidByTextLater [("stolon/stolonref02.rounds", Rows.laid_stolon_stolonref02_rounds), ("stolon/digest.rounds", Rows.laid_stolon_digest_rounds), ("stolon/stolonref06.zero", Rows.laid_stolon_stolonref06_zero)] [.data, .data, .zero] true :=
  Program.laidByTextLater.sub seatTie1 ["stolon/stolonref02.rounds", "stolon/digest.rounds", "stolon/stolonref06.zero"] (by kernel_rfl) (by kernel_rfl)
theorem inventoryReplies_row_tie : Rows.inventoryRepliesRow.laidByTextAt .later Tryz.pinned [.data, .data, .zero] true :=
  OpenClaim.laidByTextAt_later rfl rfl tie noOwnUnsafe
theorem inventorySessions_row_tie : Rows.inventorySessionsRow.laidByTextAt .later Tryz.pinned [.data, .data, .zero] true :=
  OpenClaim.laidByTextAt_later rfl rfl tie noOwnUnsafe
theorem inventoryRepliesUpto_row_tie : Rows.inventoryRepliesUptoRow.laidByTextAt .later Tryz.pinned [.data, .data, .zero] true :=
  OpenClaim.laidByTextAt_later rfl rfl tie noOwnUnsafe
theorem inventorySessionsUpto_row_tie : Rows.inventorySessionsUptoRow.laidByTextAt .later Tryz.pinned [.data, .data, .zero] true :=
  OpenClaim.laidByTextAt_later rfl rfl tie noOwnUnsafe
end Go.Proofs.YtdnahgfgoajmcaaGreatDoor
