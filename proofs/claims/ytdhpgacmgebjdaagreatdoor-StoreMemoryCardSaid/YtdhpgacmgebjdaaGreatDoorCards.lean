/-
  DERIVED. GIVEN WITH THE SEED: THE CARDS: each row of YtdhpgacmgebjdaaGreatDoorRows.lean that lists a variable, with what it lists TIED to the program's text (the seventh form; the later family's looks); each row that meets fmt, with fmt's text TOLD by the authors' own Lean function (tested against real Go, not proved from fmt's source: count such statements apart). THE CARD IS WHAT COUNTS. Prove the row's statement (the work); the ties are given (YtdhpgacmgebjdaaGreatDoorTie.lean); close each card by the builder's one call (the guide's Derived/Test/ToyasCard.lean, 'card_holds'). Laid BY PROGRAM, IN A SANDBOX (cutbox-door.mjs). By AI agents, Wed Nov 11 2026. No macro, syntax, notation, axiom, sorry.
-/
import Derived.Test.YtdhpgacmgebjdaaGreatDoorRows
import GoSem.ClaimSeven
namespace Go.Proofs.YtdhpgacmgebjdaaGreatDoor
namespace Rows

/-- THE TIED CARD OF 'stolonlaw04.StoreMemory'. -/
def storeMemoryCard : Claim7 := { stood := { row := storeMemoryRow, standIns := [], harness := (true, "b7b752e8c9a5e777f4f00378967cb2b66c69ea28f80c9c613c3d360cc41a4a50"), looks := true }, kinds := [], alts := [], laidByText := true, laidKinds := [.data], laidTests := true, laidLooks := .later }
def StoreMemoryCardSaid : Prop := Claim7.holds Tryz.pinned (.plain (OpenSpec.ofChange storeMemorySpec)) storeMemoryCard

/-- THE TIED CARD OF 'stolonlaw04.StoreSound'. -/
def storeSoundCard : Claim7 := { stood := { row := storeSoundRow, standIns := [], harness := (true, "b7b752e8c9a5e777f4f00378967cb2b66c69ea28f80c9c613c3d360cc41a4a50"), looks := true }, kinds := [], alts := [], laidByText := true, laidKinds := [.data], laidTests := true, laidLooks := .later }
def StoreSoundCardSaid : Prop := Claim7.holds Tryz.pinned (.plain (OpenSpec.ofChange storeSoundSpec)) storeSoundCard

/-- THE TIED CARD OF 'stolonlaw04.StoreKeeps'. -/
def storeKeepsCard : Claim7 := { stood := { row := storeKeepsRow, standIns := [], harness := (true, "b7b752e8c9a5e777f4f00378967cb2b66c69ea28f80c9c613c3d360cc41a4a50"), looks := true }, kinds := [], alts := [], laidByText := true, laidKinds := [.data], laidTests := true, laidLooks := .later }
def StoreKeepsCardSaid : Prop := Claim7.holds Tryz.pinned (.plain (OpenSpec.ofChange storeKeepsSpec)) storeKeepsCard

/-- THE TIED CARD OF 'stolonlaw04.StoreNothing'. -/
def storeNothingCard : Claim7 := { stood := { row := storeNothingRow, standIns := [], harness := (true, "b7b752e8c9a5e777f4f00378967cb2b66c69ea28f80c9c613c3d360cc41a4a50"), looks := true }, kinds := [], alts := [], laidByText := true, laidKinds := [.data], laidTests := true, laidLooks := .later }
def StoreNothingCardSaid : Prop := Claim7.holds Tryz.pinned (.plain (OpenSpec.ofChange storeNothingSpec)) storeNothingCard

/-- THE TIED CARD OF 'stolonlaw04.StoreRot'. -/
def storeRotCard : Claim7 := { stood := { row := storeRotRow, standIns := [], harness := (true, "b7b752e8c9a5e777f4f00378967cb2b66c69ea28f80c9c613c3d360cc41a4a50"), looks := true }, kinds := [], alts := [], laidByText := true, laidKinds := [.data], laidTests := true, laidLooks := .later }
def StoreRotCardSaid : Prop := Claim7.holds Tryz.pinned (.plain (OpenSpec.ofChange storeRotSpec)) storeRotCard

/-- THE TIED CARD OF 'stolonlaw04.StoreScrubs'. -/
def storeScrubsCard : Claim7 := { stood := { row := storeScrubsRow, standIns := [], harness := (true, "b7b752e8c9a5e777f4f00378967cb2b66c69ea28f80c9c613c3d360cc41a4a50"), looks := true }, kinds := [], alts := [], laidByText := true, laidKinds := [.data], laidTests := true, laidLooks := .later }
def StoreScrubsCardSaid : Prop := Claim7.holds Tryz.pinned (.plain (OpenSpec.ofChange storeScrubsSpec)) storeScrubsCard

/-- THE TIED CARD OF 'stolonlaw04.StoreLives'. -/
def storeLivesCard : Claim7 := { stood := { row := storeLivesRow, standIns := [], harness := (true, "b7b752e8c9a5e777f4f00378967cb2b66c69ea28f80c9c613c3d360cc41a4a50"), looks := true }, kinds := [], alts := [], laidByText := true, laidKinds := [.data, .data], laidTests := true, laidLooks := .later }
def StoreLivesCardSaid : Prop := Claim7.holds Tryz.pinned (.plain (OpenSpec.ofChange storeLivesSpec)) storeLivesCard

/-- THE TIED CARD OF 'stolonlaw04.StoreScripts'. -/
def storeScriptsCard : Claim7 := { stood := { row := storeScriptsRow, standIns := [], harness := (true, "b7b752e8c9a5e777f4f00378967cb2b66c69ea28f80c9c613c3d360cc41a4a50"), looks := true }, kinds := [], alts := [], laidByText := true, laidKinds := [.data, .data], laidTests := true, laidLooks := .later }
def StoreScriptsCardSaid : Prop := Claim7.holds Tryz.pinned (.plain (OpenSpec.ofChange storeScriptsSpec)) storeScriptsCard

/-- THE TIED CARD OF 'stolonlaw04.StoreOpens'. -/
def storeOpensCard : Claim7 := { stood := { row := storeOpensRow, standIns := [], harness := (true, "b7b752e8c9a5e777f4f00378967cb2b66c69ea28f80c9c613c3d360cc41a4a50"), looks := true }, kinds := [], alts := [], laidByText := true, laidKinds := [.data, .data], laidTests := true, laidLooks := .later }
def StoreOpensCardSaid : Prop := Claim7.holds Tryz.pinned (.plain (OpenSpec.ofChange storeOpensSpec)) storeOpensCard

/-- THE SECOND FORM's CARD OF 'stolonlaw04.StoreMemory'. -/
def storeMemoryUptoCard : Claim7 := { stood := { row := storeMemoryUptoRow, standIns := [], harness := (true, "b7b752e8c9a5e777f4f00378967cb2b66c69ea28f80c9c613c3d360cc41a4a50"), looks := true }, kinds := [], alts := [], laidByText := true, laidKinds := [.data], laidTests := true, laidLooks := .later }
def StoreMemoryUptoCardSaid : Prop := Claim7.holds Tryz.pinned (.plain (OpenSpec.upto storeMemorySpec)) storeMemoryUptoCard

/-- THE SECOND FORM's CARD OF 'stolonlaw04.StoreSound'. -/
def storeSoundUptoCard : Claim7 := { stood := { row := storeSoundUptoRow, standIns := [], harness := (true, "b7b752e8c9a5e777f4f00378967cb2b66c69ea28f80c9c613c3d360cc41a4a50"), looks := true }, kinds := [], alts := [], laidByText := true, laidKinds := [.data], laidTests := true, laidLooks := .later }
def StoreSoundUptoCardSaid : Prop := Claim7.holds Tryz.pinned (.plain (OpenSpec.upto storeSoundSpec)) storeSoundUptoCard

/-- THE SECOND FORM's CARD OF 'stolonlaw04.StoreKeeps'. -/
def storeKeepsUptoCard : Claim7 := { stood := { row := storeKeepsUptoRow, standIns := [], harness := (true, "b7b752e8c9a5e777f4f00378967cb2b66c69ea28f80c9c613c3d360cc41a4a50"), looks := true }, kinds := [], alts := [], laidByText := true, laidKinds := [.data], laidTests := true, laidLooks := .later }
def StoreKeepsUptoCardSaid : Prop := Claim7.holds Tryz.pinned (.plain (OpenSpec.upto storeKeepsSpec)) storeKeepsUptoCard

/-- THE SECOND FORM's CARD OF 'stolonlaw04.StoreNothing'. -/
def storeNothingUptoCard : Claim7 := { stood := { row := storeNothingUptoRow, standIns := [], harness := (true, "b7b752e8c9a5e777f4f00378967cb2b66c69ea28f80c9c613c3d360cc41a4a50"), looks := true }, kinds := [], alts := [], laidByText := true, laidKinds := [.data], laidTests := true, laidLooks := .later }
def StoreNothingUptoCardSaid : Prop := Claim7.holds Tryz.pinned (.plain (OpenSpec.upto storeNothingSpec)) storeNothingUptoCard

/-- THE SECOND FORM's CARD OF 'stolonlaw04.StoreRot'. -/
def storeRotUptoCard : Claim7 := { stood := { row := storeRotUptoRow, standIns := [], harness := (true, "b7b752e8c9a5e777f4f00378967cb2b66c69ea28f80c9c613c3d360cc41a4a50"), looks := true }, kinds := [], alts := [], laidByText := true, laidKinds := [.data], laidTests := true, laidLooks := .later }
def StoreRotUptoCardSaid : Prop := Claim7.holds Tryz.pinned (.plain (OpenSpec.upto storeRotSpec)) storeRotUptoCard

/-- THE SECOND FORM's CARD OF 'stolonlaw04.StoreScrubs'. -/
def storeScrubsUptoCard : Claim7 := { stood := { row := storeScrubsUptoRow, standIns := [], harness := (true, "b7b752e8c9a5e777f4f00378967cb2b66c69ea28f80c9c613c3d360cc41a4a50"), looks := true }, kinds := [], alts := [], laidByText := true, laidKinds := [.data], laidTests := true, laidLooks := .later }
def StoreScrubsUptoCardSaid : Prop := Claim7.holds Tryz.pinned (.plain (OpenSpec.upto storeScrubsSpec)) storeScrubsUptoCard

/-- THE SECOND FORM's CARD OF 'stolonlaw04.StoreLives'. -/
def storeLivesUptoCard : Claim7 := { stood := { row := storeLivesUptoRow, standIns := [], harness := (true, "b7b752e8c9a5e777f4f00378967cb2b66c69ea28f80c9c613c3d360cc41a4a50"), looks := true }, kinds := [], alts := [], laidByText := true, laidKinds := [.data, .data], laidTests := true, laidLooks := .later }
def StoreLivesUptoCardSaid : Prop := Claim7.holds Tryz.pinned (.plain (OpenSpec.upto storeLivesSpec)) storeLivesUptoCard

/-- THE SECOND FORM's CARD OF 'stolonlaw04.StoreScripts'. -/
def storeScriptsUptoCard : Claim7 := { stood := { row := storeScriptsUptoRow, standIns := [], harness := (true, "b7b752e8c9a5e777f4f00378967cb2b66c69ea28f80c9c613c3d360cc41a4a50"), looks := true }, kinds := [], alts := [], laidByText := true, laidKinds := [.data, .data], laidTests := true, laidLooks := .later }
def StoreScriptsUptoCardSaid : Prop := Claim7.holds Tryz.pinned (.plain (OpenSpec.upto storeScriptsSpec)) storeScriptsUptoCard

/-- THE SECOND FORM's CARD OF 'stolonlaw04.StoreOpens'. -/
def storeOpensUptoCard : Claim7 := { stood := { row := storeOpensUptoRow, standIns := [], harness := (true, "b7b752e8c9a5e777f4f00378967cb2b66c69ea28f80c9c613c3d360cc41a4a50"), looks := true }, kinds := [], alts := [], laidByText := true, laidKinds := [.data, .data], laidTests := true, laidLooks := .later }
def StoreOpensUptoCardSaid : Prop := Claim7.holds Tryz.pinned (.plain (OpenSpec.upto storeOpensSpec)) storeOpensUptoCard
end Rows
end Go.Proofs.YtdhpgacmgebjdaaGreatDoor
