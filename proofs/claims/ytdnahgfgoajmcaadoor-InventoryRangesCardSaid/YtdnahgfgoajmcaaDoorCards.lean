/-
  DERIVED. GIVEN WITH THE SEED: THE CARDS: each row of YtdnahgfgoajmcaaDoorRows.lean that lists a variable, with what it lists TIED to the program's text (the seventh form; the later family's looks); each row that meets fmt, with fmt's text TOLD by the authors' own Lean function (tested against real Go, not proved from fmt's source: count such statements apart). THE CARD IS WHAT COUNTS. Prove the row's statement (the work); the ties are given (YtdnahgfgoajmcaaDoorTie.lean); close each card by the builder's one call (the guide's Derived/Test/ToyasCard.lean, 'card_holds'). Laid BY PROGRAM, IN A SANDBOX (cutbox-door.mjs). By AI agents, Wed Nov 11 2026. No macro, syntax, notation, axiom, sorry.
-/
import Derived.Test.YtdnahgfgoajmcaaDoorRows
import GoSem.ClaimSeven
namespace Go.Proofs.YtdnahgfgoajmcaaDoor
namespace Rows

/-- THE TIED CARD OF 'stolonlaw06.InventoryRanges'. -/
def inventoryRangesCard : Claim7 := { stood := { row := inventoryRangesRow, standIns := [], harness := (true, "57f3b8191fc2f593c17263bd025ee39b087d990eee0302947f03d2b4fd98e347"), looks := false }, kinds := [], alts := [], laidByText := true, laidKinds := [.data, .data, .zero], laidTests := true, laidLooks := .later }
def InventoryRangesCardSaid : Prop := Claim7.holds Tryd.pinned (.plain (OpenSpec.ofChange inventoryRangesSpec)) inventoryRangesCard

/-- THE TIED CARD OF 'stolonlaw06.InventoryUnion'. -/
def inventoryUnionCard : Claim7 := { stood := { row := inventoryUnionRow, standIns := [], harness := (true, "57f3b8191fc2f593c17263bd025ee39b087d990eee0302947f03d2b4fd98e347"), looks := false }, kinds := [], alts := [], laidByText := true, laidKinds := [.data], laidTests := true, laidLooks := .later }
def InventoryUnionCardSaid : Prop := Claim7.holds Tryd.pinned (.plain (OpenSpec.ofChange inventoryUnionSpec)) inventoryUnionCard

/-- THE TIED CARD OF 'stolonlaw06.InventoryNormal'. -/
def inventoryNormalCard : Claim7 := { stood := { row := inventoryNormalRow, standIns := [], harness := (true, "57f3b8191fc2f593c17263bd025ee39b087d990eee0302947f03d2b4fd98e347"), looks := false }, kinds := [], alts := [], laidByText := true, laidKinds := [.data], laidTests := true, laidLooks := .later }
def InventoryNormalCardSaid : Prop := Claim7.holds Tryd.pinned (.plain (OpenSpec.ofChange inventoryNormalSpec)) inventoryNormalCard

/-- THE TIED CARD OF 'stolonlaw06.InventoryVerifies'. -/
def inventoryVerifiesCard : Claim7 := { stood := { row := inventoryVerifiesRow, standIns := [], harness := (true, "57f3b8191fc2f593c17263bd025ee39b087d990eee0302947f03d2b4fd98e347"), looks := false }, kinds := [], alts := [], laidByText := true, laidKinds := [.data, .data, .zero], laidTests := true, laidLooks := .later }
def InventoryVerifiesCardSaid : Prop := Claim7.holds Tryd.pinned (.plain (OpenSpec.ofChange inventoryVerifiesSpec)) inventoryVerifiesCard

/-- THE TIED CARD OF 'stolonlaw06.InventoryMerges'. -/
def inventoryMergesCard : Claim7 := { stood := { row := inventoryMergesRow, standIns := [], harness := (true, "57f3b8191fc2f593c17263bd025ee39b087d990eee0302947f03d2b4fd98e347"), looks := false }, kinds := [], alts := [], laidByText := true, laidKinds := [.data, .zero], laidTests := true, laidLooks := .later }
def InventoryMergesCardSaid : Prop := Claim7.holds Tryd.pinned (.plain (OpenSpec.ofChange inventoryMergesSpec)) inventoryMergesCard

/-- THE TIED CARD OF 'stolonlaw06.InventoryRoots'. -/
def inventoryRootsCard : Claim7 := { stood := { row := inventoryRootsRow, standIns := [], harness := (true, "57f3b8191fc2f593c17263bd025ee39b087d990eee0302947f03d2b4fd98e347"), looks := false }, kinds := [], alts := [], laidByText := true, laidKinds := [.data, .data, .zero], laidTests := true, laidLooks := .later }
def InventoryRootsCardSaid : Prop := Claim7.holds Tryd.pinned (.plain (OpenSpec.ofChange inventoryRootsSpec)) inventoryRootsCard

/-- THE TIED CARD OF 'stolonlaw06.InventoryRecordBack'. -/
def inventoryRecordBackCard : Claim7 := { stood := { row := inventoryRecordBackRow, standIns := [], harness := (true, "57f3b8191fc2f593c17263bd025ee39b087d990eee0302947f03d2b4fd98e347"), looks := false }, kinds := [], alts := [], laidByText := true, laidKinds := [.data], laidTests := true, laidLooks := .later }
def InventoryRecordBackCardSaid : Prop := Claim7.holds Tryd.pinned (.plain (OpenSpec.ofChange inventoryRecordBackSpec)) inventoryRecordBackCard

/-- THE TIED CARD OF 'stolonlaw06.InventoryRecords'. -/
def inventoryRecordsCard : Claim7 := { stood := { row := inventoryRecordsRow, standIns := [], harness := (true, "57f3b8191fc2f593c17263bd025ee39b087d990eee0302947f03d2b4fd98e347"), looks := false }, kinds := [], alts := [], laidByText := true, laidKinds := [.data, .zero], laidTests := true, laidLooks := .later }
def InventoryRecordsCardSaid : Prop := Claim7.holds Tryd.pinned (.plain (OpenSpec.ofChange inventoryRecordsSpec)) inventoryRecordsCard

/-- THE TIED CARD OF 'stolonlaw06.InventoryProofs'. -/
def inventoryProofsCard : Claim7 := { stood := { row := inventoryProofsRow, standIns := [], harness := (true, "57f3b8191fc2f593c17263bd025ee39b087d990eee0302947f03d2b4fd98e347"), looks := false }, kinds := [], alts := [], laidByText := true, laidKinds := [.data], laidTests := true, laidLooks := .later }
def InventoryProofsCardSaid : Prop := Claim7.holds Tryd.pinned (.plain (OpenSpec.ofChange inventoryProofsSpec)) inventoryProofsCard

/-- THE TIED CARD OF 'stolonlaw06.InventoryQuiet'. -/
def inventoryQuietCard : Claim7 := { stood := { row := inventoryQuietRow, standIns := [], harness := (true, "57f3b8191fc2f593c17263bd025ee39b087d990eee0302947f03d2b4fd98e347"), looks := false }, kinds := [], alts := [], laidByText := true, laidKinds := [.data], laidTests := true, laidLooks := .later }
def InventoryQuietCardSaid : Prop := Claim7.holds Tryd.pinned (.plain (OpenSpec.ofChange inventoryQuietSpec)) inventoryQuietCard

/-- THE TIED CARD OF 'stolonlaw06.InventoryMemory'. -/
def inventoryMemoryCard : Claim7 := { stood := { row := inventoryMemoryRow, standIns := [], harness := (true, "57f3b8191fc2f593c17263bd025ee39b087d990eee0302947f03d2b4fd98e347"), looks := false }, kinds := [], alts := [], laidByText := true, laidKinds := [.data], laidTests := true, laidLooks := .later }
def InventoryMemoryCardSaid : Prop := Claim7.holds Tryd.pinned (.plain (OpenSpec.ofChange inventoryMemorySpec)) inventoryMemoryCard

/-- THE SECOND FORM's CARD OF 'stolonlaw06.InventoryRanges'. -/
def inventoryRangesUptoCard : Claim7 := { stood := { row := inventoryRangesUptoRow, standIns := [], harness := (true, "57f3b8191fc2f593c17263bd025ee39b087d990eee0302947f03d2b4fd98e347"), looks := false }, kinds := [], alts := [], laidByText := true, laidKinds := [.data, .data, .zero], laidTests := true, laidLooks := .later }
def InventoryRangesUptoCardSaid : Prop := Claim7.holds Tryd.pinned (.plain (OpenSpec.upto inventoryRangesSpec)) inventoryRangesUptoCard

/-- THE SECOND FORM's CARD OF 'stolonlaw06.InventoryUnion'. -/
def inventoryUnionUptoCard : Claim7 := { stood := { row := inventoryUnionUptoRow, standIns := [], harness := (true, "57f3b8191fc2f593c17263bd025ee39b087d990eee0302947f03d2b4fd98e347"), looks := false }, kinds := [], alts := [], laidByText := true, laidKinds := [.data], laidTests := true, laidLooks := .later }
def InventoryUnionUptoCardSaid : Prop := Claim7.holds Tryd.pinned (.plain (OpenSpec.upto inventoryUnionSpec)) inventoryUnionUptoCard

/-- THE SECOND FORM's CARD OF 'stolonlaw06.InventoryNormal'. -/
def inventoryNormalUptoCard : Claim7 := { stood := { row := inventoryNormalUptoRow, standIns := [], harness := (true, "57f3b8191fc2f593c17263bd025ee39b087d990eee0302947f03d2b4fd98e347"), looks := false }, kinds := [], alts := [], laidByText := true, laidKinds := [.data], laidTests := true, laidLooks := .later }
def InventoryNormalUptoCardSaid : Prop := Claim7.holds Tryd.pinned (.plain (OpenSpec.upto inventoryNormalSpec)) inventoryNormalUptoCard

/-- THE SECOND FORM's CARD OF 'stolonlaw06.InventoryVerifies'. -/
def inventoryVerifiesUptoCard : Claim7 := { stood := { row := inventoryVerifiesUptoRow, standIns := [], harness := (true, "57f3b8191fc2f593c17263bd025ee39b087d990eee0302947f03d2b4fd98e347"), looks := false }, kinds := [], alts := [], laidByText := true, laidKinds := [.data, .data, .zero], laidTests := true, laidLooks := .later }
def InventoryVerifiesUptoCardSaid : Prop := Claim7.holds Tryd.pinned (.plain (OpenSpec.upto inventoryVerifiesSpec)) inventoryVerifiesUptoCard

/-- THE SECOND FORM's CARD OF 'stolonlaw06.InventoryMerges'. -/
def inventoryMergesUptoCard : Claim7 := { stood := { row := inventoryMergesUptoRow, standIns := [], harness := (true, "57f3b8191fc2f593c17263bd025ee39b087d990eee0302947f03d2b4fd98e347"), looks := false }, kinds := [], alts := [], laidByText := true, laidKinds := [.data, .zero], laidTests := true, laidLooks := .later }
def InventoryMergesUptoCardSaid : Prop := Claim7.holds Tryd.pinned (.plain (OpenSpec.upto inventoryMergesSpec)) inventoryMergesUptoCard

/-- THE SECOND FORM's CARD OF 'stolonlaw06.InventoryRoots'. -/
def inventoryRootsUptoCard : Claim7 := { stood := { row := inventoryRootsUptoRow, standIns := [], harness := (true, "57f3b8191fc2f593c17263bd025ee39b087d990eee0302947f03d2b4fd98e347"), looks := false }, kinds := [], alts := [], laidByText := true, laidKinds := [.data, .data, .zero], laidTests := true, laidLooks := .later }
def InventoryRootsUptoCardSaid : Prop := Claim7.holds Tryd.pinned (.plain (OpenSpec.upto inventoryRootsSpec)) inventoryRootsUptoCard

/-- THE SECOND FORM's CARD OF 'stolonlaw06.InventoryRecordBack'. -/
def inventoryRecordBackUptoCard : Claim7 := { stood := { row := inventoryRecordBackUptoRow, standIns := [], harness := (true, "57f3b8191fc2f593c17263bd025ee39b087d990eee0302947f03d2b4fd98e347"), looks := false }, kinds := [], alts := [], laidByText := true, laidKinds := [.data], laidTests := true, laidLooks := .later }
def InventoryRecordBackUptoCardSaid : Prop := Claim7.holds Tryd.pinned (.plain (OpenSpec.upto inventoryRecordBackSpec)) inventoryRecordBackUptoCard

/-- THE SECOND FORM's CARD OF 'stolonlaw06.InventoryRecords'. -/
def inventoryRecordsUptoCard : Claim7 := { stood := { row := inventoryRecordsUptoRow, standIns := [], harness := (true, "57f3b8191fc2f593c17263bd025ee39b087d990eee0302947f03d2b4fd98e347"), looks := false }, kinds := [], alts := [], laidByText := true, laidKinds := [.data, .zero], laidTests := true, laidLooks := .later }
def InventoryRecordsUptoCardSaid : Prop := Claim7.holds Tryd.pinned (.plain (OpenSpec.upto inventoryRecordsSpec)) inventoryRecordsUptoCard

/-- THE SECOND FORM's CARD OF 'stolonlaw06.InventoryProofs'. -/
def inventoryProofsUptoCard : Claim7 := { stood := { row := inventoryProofsUptoRow, standIns := [], harness := (true, "57f3b8191fc2f593c17263bd025ee39b087d990eee0302947f03d2b4fd98e347"), looks := false }, kinds := [], alts := [], laidByText := true, laidKinds := [.data], laidTests := true, laidLooks := .later }
def InventoryProofsUptoCardSaid : Prop := Claim7.holds Tryd.pinned (.plain (OpenSpec.upto inventoryProofsSpec)) inventoryProofsUptoCard

/-- THE SECOND FORM's CARD OF 'stolonlaw06.InventoryQuiet'. -/
def inventoryQuietUptoCard : Claim7 := { stood := { row := inventoryQuietUptoRow, standIns := [], harness := (true, "57f3b8191fc2f593c17263bd025ee39b087d990eee0302947f03d2b4fd98e347"), looks := false }, kinds := [], alts := [], laidByText := true, laidKinds := [.data], laidTests := true, laidLooks := .later }
def InventoryQuietUptoCardSaid : Prop := Claim7.holds Tryd.pinned (.plain (OpenSpec.upto inventoryQuietSpec)) inventoryQuietUptoCard

/-- THE SECOND FORM's CARD OF 'stolonlaw06.InventoryMemory'. -/
def inventoryMemoryUptoCard : Claim7 := { stood := { row := inventoryMemoryUptoRow, standIns := [], harness := (true, "57f3b8191fc2f593c17263bd025ee39b087d990eee0302947f03d2b4fd98e347"), looks := false }, kinds := [], alts := [], laidByText := true, laidKinds := [.data], laidTests := true, laidLooks := .later }
def InventoryMemoryUptoCardSaid : Prop := Claim7.holds Tryd.pinned (.plain (OpenSpec.upto inventoryMemorySpec)) inventoryMemoryUptoCard
end Rows
end Go.Proofs.YtdnahgfgoajmcaaDoor
