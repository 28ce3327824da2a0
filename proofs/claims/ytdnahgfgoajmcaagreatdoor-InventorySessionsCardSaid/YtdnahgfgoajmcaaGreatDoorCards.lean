/-
  DERIVED. GIVEN WITH THE SEED: THE CARDS: each row of YtdnahgfgoajmcaaGreatDoorRows.lean that lists a variable, with what it lists TIED to the program's text (the seventh form; the later family's looks); each row that meets fmt, with fmt's text TOLD by the authors' own Lean function (tested against real Go, not proved from fmt's source: count such statements apart). THE CARD IS WHAT COUNTS. Prove the row's statement (the work); the ties are given (YtdnahgfgoajmcaaGreatDoorTie.lean); close each card by the builder's one call (the guide's Derived/Test/ToyasCard.lean, 'card_holds'). Laid BY PROGRAM, IN A SANDBOX (cutbox-door.mjs). By AI agents, Wed Nov 11 2026. No macro, syntax, notation, axiom, sorry.
-/
import Derived.Test.YtdnahgfgoajmcaaGreatDoorRows
import GoSem.ClaimSeven
namespace Go.Proofs.YtdnahgfgoajmcaaGreatDoor
namespace Rows

/-- THE TIED CARD OF 'stolonlaw06.InventoryReplies'. -/
def inventoryRepliesCard : Claim7 := { stood := { row := inventoryRepliesRow, standIns := [], harness := (true, "7146c803e7fa4d3483493c056f3c4d4007d5ec066a236fbc0bceec5e26c62327"), looks := false }, kinds := [], alts := [], laidByText := true, laidKinds := [.data, .data, .zero], laidTests := true, laidLooks := .later }
def InventoryRepliesCardSaid : Prop := Claim7.holds Tryz.pinned (.plain (OpenSpec.ofChange inventoryRepliesSpec)) inventoryRepliesCard

/-- THE TIED CARD OF 'stolonlaw06.InventorySessions'. -/
def inventorySessionsCard : Claim7 := { stood := { row := inventorySessionsRow, standIns := [], harness := (true, "7146c803e7fa4d3483493c056f3c4d4007d5ec066a236fbc0bceec5e26c62327"), looks := false }, kinds := [], alts := [], laidByText := true, laidKinds := [.data, .data, .zero], laidTests := true, laidLooks := .later }
def InventorySessionsCardSaid : Prop := Claim7.holds Tryz.pinned (.plain (OpenSpec.ofChange inventorySessionsSpec)) inventorySessionsCard

/-- THE SECOND FORM's CARD OF 'stolonlaw06.InventoryReplies'. -/
def inventoryRepliesUptoCard : Claim7 := { stood := { row := inventoryRepliesUptoRow, standIns := [], harness := (true, "7146c803e7fa4d3483493c056f3c4d4007d5ec066a236fbc0bceec5e26c62327"), looks := false }, kinds := [], alts := [], laidByText := true, laidKinds := [.data, .data, .zero], laidTests := true, laidLooks := .later }
def InventoryRepliesUptoCardSaid : Prop := Claim7.holds Tryz.pinned (.plain (OpenSpec.upto inventoryRepliesSpec)) inventoryRepliesUptoCard

/-- THE SECOND FORM's CARD OF 'stolonlaw06.InventorySessions'. -/
def inventorySessionsUptoCard : Claim7 := { stood := { row := inventorySessionsUptoRow, standIns := [], harness := (true, "7146c803e7fa4d3483493c056f3c4d4007d5ec066a236fbc0bceec5e26c62327"), looks := false }, kinds := [], alts := [], laidByText := true, laidKinds := [.data, .data, .zero], laidTests := true, laidLooks := .later }
def InventorySessionsUptoCardSaid : Prop := Claim7.holds Tryz.pinned (.plain (OpenSpec.upto inventorySessionsSpec)) inventorySessionsUptoCard
end Rows
end Go.Proofs.YtdnahgfgoajmcaaGreatDoor
