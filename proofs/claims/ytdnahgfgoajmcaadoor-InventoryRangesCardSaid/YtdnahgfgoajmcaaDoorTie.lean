/-
  DERIVED. GIVEN WITH THE SEED: THE PROGRAM's TIES (one call each: nine closed facts by the kernel) AND EACH ROW's TIE, after the 31st guide's Derived/Test/Toyas{Tie, Card}.lean. No idea stands in it: it is a product of the set-up. Laid BY PROGRAM, IN A SANDBOX (cutbox-door.mjs). By AI agents, Wed Nov 11 2026. No macro, syntax, notation, axiom, sorry.
-/
import Derived.Test.YtdnahgfgoajmcaaDoorRows
import Derived.LaidByTextLater
import Derived.SevenTiedAt
import Derived.LaidSub
import Derived.LaidOnce
namespace Go.Proofs.YtdnahgfgoajmcaaDoor
open Go
set_option maxRecDepth 100000
theorem seatTie1 : Tryd.prog.laidByTextLater [("stolon/stolonref02.rounds", Rows.laid_stolon_stolonref02_rounds), ("stolon/digest.rounds", Rows.laid_stolon_digest_rounds), ("stolon/stolonref06.zero", Rows.laid_stolon_stolonref06_zero)] [.data, .data, .zero] true :=
  Program.laidByTextLater_by_one 19 8 65 (by kernel_rfl) (by kernel_rfl) (by kernel_rfl) (by kernel_rfl) (by kernel_rfl) (by kernel_rfl) (fun _ _ => by kernel_rfl)
theorem noOwnUnsafe : Tryd.pinned.checked.prog.headLifts.contains "ownunsafe" = false := by kernel_rfl
theorem tie : Tryd.prog.laidByTextLater [("stolon/stolonref02.rounds", Rows.laid_stolon_stolonref02_rounds), ("stolon/digest.rounds", Rows.laid_stolon_digest_rounds), ("stolon/stolonref06.zero", Rows.laid_stolon_stolonref06_zero)] [.data, .data, .zero] true :=
  Program.laidByTextLater.sub seatTie1 ["stolon/stolonref02.rounds", "stolon/digest.rounds", "stolon/stolonref06.zero"] (by kernel_rfl) (by kernel_rfl)
theorem inventoryRanges_row_tie : Rows.inventoryRangesRow.laidByTextAt .later Tryd.pinned [.data, .data, .zero] true :=
  OpenClaim.laidByTextAt_later rfl rfl tie noOwnUnsafe
theorem inventoryVerifies_row_tie : Rows.inventoryVerifiesRow.laidByTextAt .later Tryd.pinned [.data, .data, .zero] true :=
  OpenClaim.laidByTextAt_later rfl rfl tie noOwnUnsafe
theorem inventoryRoots_row_tie : Rows.inventoryRootsRow.laidByTextAt .later Tryd.pinned [.data, .data, .zero] true :=
  OpenClaim.laidByTextAt_later rfl rfl tie noOwnUnsafe
theorem tie2 : Tryd.prog.laidByTextLater [("stolon/digest.rounds", Rows.laid_stolon_digest_rounds)] [.data] true :=
  Program.laidByTextLater.sub seatTie1 ["stolon/digest.rounds"] (by kernel_rfl) (by kernel_rfl)
theorem inventoryUnion_row_tie : Rows.inventoryUnionRow.laidByTextAt .later Tryd.pinned [.data] true :=
  OpenClaim.laidByTextAt_later rfl rfl tie2 noOwnUnsafe
theorem inventoryNormal_row_tie : Rows.inventoryNormalRow.laidByTextAt .later Tryd.pinned [.data] true :=
  OpenClaim.laidByTextAt_later rfl rfl tie2 noOwnUnsafe
theorem inventoryRecordBack_row_tie : Rows.inventoryRecordBackRow.laidByTextAt .later Tryd.pinned [.data] true :=
  OpenClaim.laidByTextAt_later rfl rfl tie2 noOwnUnsafe
theorem inventoryProofs_row_tie : Rows.inventoryProofsRow.laidByTextAt .later Tryd.pinned [.data] true :=
  OpenClaim.laidByTextAt_later rfl rfl tie2 noOwnUnsafe
theorem inventoryQuiet_row_tie : Rows.inventoryQuietRow.laidByTextAt .later Tryd.pinned [.data] true :=
  OpenClaim.laidByTextAt_later rfl rfl tie2 noOwnUnsafe
theorem inventoryMemory_row_tie : Rows.inventoryMemoryRow.laidByTextAt .later Tryd.pinned [.data] true :=
  OpenClaim.laidByTextAt_later rfl rfl tie2 noOwnUnsafe
theorem tie3 : Tryd.prog.laidByTextLater [("stolon/digest.rounds", Rows.laid_stolon_digest_rounds), ("stolon/stolonref06.zero", Rows.laid_stolon_stolonref06_zero)] [.data, .zero] true :=
  Program.laidByTextLater.sub seatTie1 ["stolon/digest.rounds", "stolon/stolonref06.zero"] (by kernel_rfl) (by kernel_rfl)
theorem inventoryMerges_row_tie : Rows.inventoryMergesRow.laidByTextAt .later Tryd.pinned [.data, .zero] true :=
  OpenClaim.laidByTextAt_later rfl rfl tie3 noOwnUnsafe
theorem inventoryRecords_row_tie : Rows.inventoryRecordsRow.laidByTextAt .later Tryd.pinned [.data, .zero] true :=
  OpenClaim.laidByTextAt_later rfl rfl tie3 noOwnUnsafe
theorem inventoryRangesUpto_row_tie : Rows.inventoryRangesUptoRow.laidByTextAt .later Tryd.pinned [.data, .data, .zero] true :=
  OpenClaim.laidByTextAt_later rfl rfl tie noOwnUnsafe
theorem inventoryUnionUpto_row_tie : Rows.inventoryUnionUptoRow.laidByTextAt .later Tryd.pinned [.data] true :=
  OpenClaim.laidByTextAt_later rfl rfl tie2 noOwnUnsafe
theorem inventoryNormalUpto_row_tie : Rows.inventoryNormalUptoRow.laidByTextAt .later Tryd.pinned [.data] true :=
  OpenClaim.laidByTextAt_later rfl rfl tie2 noOwnUnsafe
theorem inventoryVerifiesUpto_row_tie : Rows.inventoryVerifiesUptoRow.laidByTextAt .later Tryd.pinned [.data, .data, .zero] true :=
  OpenClaim.laidByTextAt_later rfl rfl tie noOwnUnsafe
theorem inventoryMergesUpto_row_tie : Rows.inventoryMergesUptoRow.laidByTextAt .later Tryd.pinned [.data, .zero] true :=
  OpenClaim.laidByTextAt_later rfl rfl tie3 noOwnUnsafe
theorem inventoryRootsUpto_row_tie : Rows.inventoryRootsUptoRow.laidByTextAt .later Tryd.pinned [.data, .data, .zero] true :=
  OpenClaim.laidByTextAt_later rfl rfl tie noOwnUnsafe
theorem inventoryRecordBackUpto_row_tie : Rows.inventoryRecordBackUptoRow.laidByTextAt .later Tryd.pinned [.data] true :=
  OpenClaim.laidByTextAt_later rfl rfl tie2 noOwnUnsafe
theorem inventoryRecordsUpto_row_tie : Rows.inventoryRecordsUptoRow.laidByTextAt .later Tryd.pinned [.data, .zero] true :=
  OpenClaim.laidByTextAt_later rfl rfl tie3 noOwnUnsafe
theorem inventoryProofsUpto_row_tie : Rows.inventoryProofsUptoRow.laidByTextAt .later Tryd.pinned [.data] true :=
  OpenClaim.laidByTextAt_later rfl rfl tie2 noOwnUnsafe
theorem inventoryQuietUpto_row_tie : Rows.inventoryQuietUptoRow.laidByTextAt .later Tryd.pinned [.data] true :=
  OpenClaim.laidByTextAt_later rfl rfl tie2 noOwnUnsafe
theorem inventoryMemoryUpto_row_tie : Rows.inventoryMemoryUptoRow.laidByTextAt .later Tryd.pinned [.data] true :=
  OpenClaim.laidByTextAt_later rfl rfl tie2 noOwnUnsafe
end Go.Proofs.YtdnahgfgoajmcaaDoor
