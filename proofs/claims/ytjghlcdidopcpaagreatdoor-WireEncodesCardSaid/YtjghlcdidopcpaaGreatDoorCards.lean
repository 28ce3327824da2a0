/-
  DERIVED. GIVEN WITH THE SEED: THE CARDS: each row of YtjghlcdidopcpaaGreatDoorRows.lean that lists a variable, with what it lists TIED to the program's text (the seventh form; the later family's looks); each row that meets fmt, with fmt's text TOLD by the authors' own Lean function (tested against real Go, not proved from fmt's source: count such statements apart). THE CARD IS WHAT COUNTS. Prove the row's statement (the work); the ties are given (YtjghlcdidopcpaaGreatDoorTie.lean); close each card by the builder's one call (the guide's Derived/Test/ToyasCard.lean, 'card_holds'). Laid BY PROGRAM, IN A SANDBOX (cutbox-door.mjs). By AI agents, Wed Nov 11 2026. No macro, syntax, notation, axiom, sorry.
-/
import Derived.Test.YtjghlcdidopcpaaGreatDoorRows
import GoSem.ClaimSeven
namespace Go.Proofs.YtjghlcdidopcpaaGreatDoor
namespace Rows

/-- THE TIED CARD OF 'stolonlaw08.WireDecodes'. -/
def wireDecodesCard : Claim7 := { stood := { row := wireDecodesRow, standIns := [], harness := (true, "0899ee41fc4ac053e0d9829f184785e2061c517c4dbf149df7c606d1749d19c5"), looks := false }, kinds := [], alts := [], laidByText := true, laidKinds := [.data, .data, .data, .zero], laidTests := true, laidLooks := .later }
def WireDecodesCardSaid : Prop := Claim7.holds Tryz.pinned (.plain (OpenSpec.ofChange wireDecodesSpec)) wireDecodesCard

/-- THE TIED CARD OF 'stolonlaw08.WireNames'. -/
def wireNamesCard : Claim7 := { stood := { row := wireNamesRow, standIns := [], harness := (true, "0899ee41fc4ac053e0d9829f184785e2061c517c4dbf149df7c606d1749d19c5"), looks := false }, kinds := [], alts := [], laidByText := true, laidKinds := [.data, .data, .data], laidTests := true, laidLooks := .later }
def WireNamesCardSaid : Prop := Claim7.holds Tryz.pinned (.plain (OpenSpec.ofChange wireNamesSpec)) wireNamesCard

/-- THE TIED CARD OF 'stolonlaw08.WireBack'. -/
def wireBackCard : Claim7 := { stood := { row := wireBackRow, standIns := [], harness := (true, "0899ee41fc4ac053e0d9829f184785e2061c517c4dbf149df7c606d1749d19c5"), looks := false }, kinds := [], alts := [], laidByText := true, laidKinds := [.data, .data, .data], laidTests := true, laidLooks := .later }
def WireBackCardSaid : Prop := Claim7.holds Tryz.pinned (.plain (OpenSpec.ofChange wireBackSpec)) wireBackCard

/-- THE TIED CARD OF 'stolonlaw08.WireDetects'. -/
def wireDetectsCard : Claim7 := { stood := { row := wireDetectsRow, standIns := [], harness := (true, "0899ee41fc4ac053e0d9829f184785e2061c517c4dbf149df7c606d1749d19c5"), looks := false }, kinds := [], alts := [], laidByText := true, laidKinds := [.data, .data, .data], laidTests := true, laidLooks := .later }
def WireDetectsCardSaid : Prop := Claim7.holds Tryz.pinned (.plain (OpenSpec.ofChange wireDetectsSpec)) wireDetectsCard

/-- THE TIED CARD OF 'stolonlaw08.WireMemory'. -/
def wireMemoryCard : Claim7 := { stood := { row := wireMemoryRow, standIns := [], harness := (true, "0899ee41fc4ac053e0d9829f184785e2061c517c4dbf149df7c606d1749d19c5"), looks := false }, kinds := [], alts := [], laidByText := true, laidKinds := [.data, .data, .data], laidTests := true, laidLooks := .later }
def WireMemoryCardSaid : Prop := Claim7.holds Tryz.pinned (.plain (OpenSpec.ofChange wireMemorySpec)) wireMemoryCard

/-- THE TIED CARD OF 'stolonlaw08.WireEncodes'. -/
def wireEncodesCard : Claim7 := { stood := { row := wireEncodesRow, standIns := [], harness := (true, "0899ee41fc4ac053e0d9829f184785e2061c517c4dbf149df7c606d1749d19c5"), looks := false }, kinds := [], alts := [], laidByText := true, laidKinds := [.data, .data, .data, .zero], laidTests := true, laidLooks := .later }
def WireEncodesCardSaid : Prop := Claim7.holds Tryz.pinned (.plain (OpenSpec.ofChange wireEncodesSpec)) wireEncodesCard

/-- THE TIED CARD OF 'stolonlaw08.WireEqual'. -/
def wireEqualCard : Claim7 := { stood := { row := wireEqualRow, standIns := [], harness := (true, "0899ee41fc4ac053e0d9829f184785e2061c517c4dbf149df7c606d1749d19c5"), looks := false }, kinds := [], alts := [], laidByText := true, laidKinds := [.data, .data, .data], laidTests := true, laidLooks := .later }
def WireEqualCardSaid : Prop := Claim7.holds Tryz.pinned (.plain (OpenSpec.ofChange wireEqualSpec)) wireEqualCard

/-- THE TIED CARD OF 'stolonlaw08.WireScans'. -/
def wireScansCard : Claim7 := { stood := { row := wireScansRow, standIns := [], harness := (true, "0899ee41fc4ac053e0d9829f184785e2061c517c4dbf149df7c606d1749d19c5"), looks := false }, kinds := [], alts := [], laidByText := true, laidKinds := [.data, .data, .data, .zero], laidTests := true, laidLooks := .later }
def WireScansCardSaid : Prop := Claim7.holds Tryz.pinned (.plain (OpenSpec.ofChange wireScansSpec)) wireScansCard

/-- THE TIED CARD OF 'stolonlaw08.WireStream'. -/
def wireStreamCard : Claim7 := { stood := { row := wireStreamRow, standIns := [], harness := (true, "0899ee41fc4ac053e0d9829f184785e2061c517c4dbf149df7c606d1749d19c5"), looks := false }, kinds := [], alts := [], laidByText := true, laidKinds := [.data, .data, .data], laidTests := true, laidLooks := .later }
def WireStreamCardSaid : Prop := Claim7.holds Tryz.pinned (.plain (OpenSpec.ofChange wireStreamSpec)) wireStreamCard

/-- THE SECOND FORM's CARD OF 'stolonlaw08.WireDecodes'. -/
def wireDecodesUptoCard : Claim7 := { stood := { row := wireDecodesUptoRow, standIns := [], harness := (true, "0899ee41fc4ac053e0d9829f184785e2061c517c4dbf149df7c606d1749d19c5"), looks := false }, kinds := [], alts := [], laidByText := true, laidKinds := [.data, .data, .data, .zero], laidTests := true, laidLooks := .later }
def WireDecodesUptoCardSaid : Prop := Claim7.holds Tryz.pinned (.plain (OpenSpec.upto wireDecodesSpec)) wireDecodesUptoCard

/-- THE SECOND FORM's CARD OF 'stolonlaw08.WireNames'. -/
def wireNamesUptoCard : Claim7 := { stood := { row := wireNamesUptoRow, standIns := [], harness := (true, "0899ee41fc4ac053e0d9829f184785e2061c517c4dbf149df7c606d1749d19c5"), looks := false }, kinds := [], alts := [], laidByText := true, laidKinds := [.data, .data, .data], laidTests := true, laidLooks := .later }
def WireNamesUptoCardSaid : Prop := Claim7.holds Tryz.pinned (.plain (OpenSpec.upto wireNamesSpec)) wireNamesUptoCard

/-- THE SECOND FORM's CARD OF 'stolonlaw08.WireBack'. -/
def wireBackUptoCard : Claim7 := { stood := { row := wireBackUptoRow, standIns := [], harness := (true, "0899ee41fc4ac053e0d9829f184785e2061c517c4dbf149df7c606d1749d19c5"), looks := false }, kinds := [], alts := [], laidByText := true, laidKinds := [.data, .data, .data], laidTests := true, laidLooks := .later }
def WireBackUptoCardSaid : Prop := Claim7.holds Tryz.pinned (.plain (OpenSpec.upto wireBackSpec)) wireBackUptoCard

/-- THE SECOND FORM's CARD OF 'stolonlaw08.WireDetects'. -/
def wireDetectsUptoCard : Claim7 := { stood := { row := wireDetectsUptoRow, standIns := [], harness := (true, "0899ee41fc4ac053e0d9829f184785e2061c517c4dbf149df7c606d1749d19c5"), looks := false }, kinds := [], alts := [], laidByText := true, laidKinds := [.data, .data, .data], laidTests := true, laidLooks := .later }
def WireDetectsUptoCardSaid : Prop := Claim7.holds Tryz.pinned (.plain (OpenSpec.upto wireDetectsSpec)) wireDetectsUptoCard

/-- THE SECOND FORM's CARD OF 'stolonlaw08.WireMemory'. -/
def wireMemoryUptoCard : Claim7 := { stood := { row := wireMemoryUptoRow, standIns := [], harness := (true, "0899ee41fc4ac053e0d9829f184785e2061c517c4dbf149df7c606d1749d19c5"), looks := false }, kinds := [], alts := [], laidByText := true, laidKinds := [.data, .data, .data], laidTests := true, laidLooks := .later }
def WireMemoryUptoCardSaid : Prop := Claim7.holds Tryz.pinned (.plain (OpenSpec.upto wireMemorySpec)) wireMemoryUptoCard

/-- THE SECOND FORM's CARD OF 'stolonlaw08.WireEncodes'. -/
def wireEncodesUptoCard : Claim7 := { stood := { row := wireEncodesUptoRow, standIns := [], harness := (true, "0899ee41fc4ac053e0d9829f184785e2061c517c4dbf149df7c606d1749d19c5"), looks := false }, kinds := [], alts := [], laidByText := true, laidKinds := [.data, .data, .data, .zero], laidTests := true, laidLooks := .later }
def WireEncodesUptoCardSaid : Prop := Claim7.holds Tryz.pinned (.plain (OpenSpec.upto wireEncodesSpec)) wireEncodesUptoCard

/-- THE SECOND FORM's CARD OF 'stolonlaw08.WireEqual'. -/
def wireEqualUptoCard : Claim7 := { stood := { row := wireEqualUptoRow, standIns := [], harness := (true, "0899ee41fc4ac053e0d9829f184785e2061c517c4dbf149df7c606d1749d19c5"), looks := false }, kinds := [], alts := [], laidByText := true, laidKinds := [.data, .data, .data], laidTests := true, laidLooks := .later }
def WireEqualUptoCardSaid : Prop := Claim7.holds Tryz.pinned (.plain (OpenSpec.upto wireEqualSpec)) wireEqualUptoCard

/-- THE SECOND FORM's CARD OF 'stolonlaw08.WireScans'. -/
def wireScansUptoCard : Claim7 := { stood := { row := wireScansUptoRow, standIns := [], harness := (true, "0899ee41fc4ac053e0d9829f184785e2061c517c4dbf149df7c606d1749d19c5"), looks := false }, kinds := [], alts := [], laidByText := true, laidKinds := [.data, .data, .data, .zero], laidTests := true, laidLooks := .later }
def WireScansUptoCardSaid : Prop := Claim7.holds Tryz.pinned (.plain (OpenSpec.upto wireScansSpec)) wireScansUptoCard

/-- THE SECOND FORM's CARD OF 'stolonlaw08.WireStream'. -/
def wireStreamUptoCard : Claim7 := { stood := { row := wireStreamUptoRow, standIns := [], harness := (true, "0899ee41fc4ac053e0d9829f184785e2061c517c4dbf149df7c606d1749d19c5"), looks := false }, kinds := [], alts := [], laidByText := true, laidKinds := [.data, .data, .data], laidTests := true, laidLooks := .later }
def WireStreamUptoCardSaid : Prop := Claim7.holds Tryz.pinned (.plain (OpenSpec.upto wireStreamSpec)) wireStreamUptoCard
end Rows
end Go.Proofs.YtjghlcdidopcpaaGreatDoor
