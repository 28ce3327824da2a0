/-
  DERIVED. GIVEN WITH THE SEED: THE CARDS: each row of YtdmnphocgfnlpaaGreatDoorRows.lean that lists a variable, with what it lists TIED to the program's text (the seventh form; the later family's looks); each row that meets fmt, with fmt's text TOLD by the authors' own Lean function (tested against real Go, not proved from fmt's source: count such statements apart). THE CARD IS WHAT COUNTS. Prove the row's statement (the work); the ties are given (YtdmnphocgfnlpaaGreatDoorTie.lean); close each card by the builder's one call (the guide's Derived/Test/ToyasCard.lean, 'card_holds'). Laid BY PROGRAM, IN A SANDBOX (cutbox-door.mjs). By AI agents, Wed Nov 11 2026. No macro, syntax, notation, axiom, sorry.
-/
import Derived.Test.YtdmnphocgfnlpaaGreatDoorRows
import GoSem.ClaimSeven
namespace Go.Proofs.YtdmnphocgfnlpaaGreatDoor
namespace Rows

/-- THE TIED CARD OF 'stolonlaw10.SwarmScripts'. -/
def swarmScriptsCard : Claim7 := { stood := { row := swarmScriptsRow, standIns := [], harness := (true, "ee15f8fce87ffaa5537e1712275f8b1d155c9bd10e9c1acb0a7e0f954d72e106"), looks := true }, kinds := [], alts := [], laidByText := true, laidKinds := [.data], laidTests := true, laidLooks := .later }
def SwarmScriptsCardSaid : Prop := Claim7.holds Tryz.pinned (.plain (OpenSpec.ofChange swarmScriptsSpec)) swarmScriptsCard

/-- THE TIED CARD OF 'stolonlaw10.SwarmParses'. -/
def swarmParsesCard : Claim7 := { stood := { row := swarmParsesRow, standIns := [], harness := (true, "ee15f8fce87ffaa5537e1712275f8b1d155c9bd10e9c1acb0a7e0f954d72e106"), looks := true }, kinds := [], alts := [], laidByText := true, laidKinds := [.data], laidTests := true, laidLooks := .later }
def SwarmParsesCardSaid : Prop := Claim7.holds Tryz.pinned (.plain (OpenSpec.ofChange swarmParsesSpec)) swarmParsesCard

/-- THE TIED CARD OF 'stolonlaw10.SwarmScriptBack'. -/
def swarmScriptBackCard : Claim7 := { stood := { row := swarmScriptBackRow, standIns := [], harness := (true, "ee15f8fce87ffaa5537e1712275f8b1d155c9bd10e9c1acb0a7e0f954d72e106"), looks := true }, kinds := [], alts := [], laidByText := true, laidKinds := [.data], laidTests := true, laidLooks := .later }
def SwarmScriptBackCardSaid : Prop := Claim7.holds Tryz.pinned (.plain (OpenSpec.ofChange swarmScriptBackSpec)) swarmScriptBackCard

/-- THE TIED CARD OF 'stolonlaw10.SwarmBounds'. -/
def swarmBoundsCard : Claim7 := { stood := { row := swarmBoundsRow, standIns := [], harness := (true, "ee15f8fce87ffaa5537e1712275f8b1d155c9bd10e9c1acb0a7e0f954d72e106"), looks := true }, kinds := [], alts := [], laidByText := true, laidKinds := [.data], laidTests := true, laidLooks := .later }
def SwarmBoundsCardSaid : Prop := Claim7.holds Tryz.pinned (.plain (OpenSpec.ofChange swarmBoundsSpec)) swarmBoundsCard

/-- THE TIED CARD OF 'stolonlaw10.SwarmAbsent'. -/
def swarmAbsentCard : Claim7 := { stood := { row := swarmAbsentRow, standIns := [], harness := (true, "ee15f8fce87ffaa5537e1712275f8b1d155c9bd10e9c1acb0a7e0f954d72e106"), looks := true }, kinds := [], alts := [], laidByText := true, laidKinds := [.data], laidTests := true, laidLooks := .later }
def SwarmAbsentCardSaid : Prop := Claim7.holds Tryz.pinned (.plain (OpenSpec.ofChange swarmAbsentSpec)) swarmAbsentCard

/-- THE SECOND FORM's CARD OF 'stolonlaw10.SwarmScripts'. -/
def swarmScriptsUptoCard : Claim7 := { stood := { row := swarmScriptsUptoRow, standIns := [], harness := (true, "ee15f8fce87ffaa5537e1712275f8b1d155c9bd10e9c1acb0a7e0f954d72e106"), looks := true }, kinds := [], alts := [], laidByText := true, laidKinds := [.data], laidTests := true, laidLooks := .later }
def SwarmScriptsUptoCardSaid : Prop := Claim7.holds Tryz.pinned (.plain (OpenSpec.upto swarmScriptsSpec)) swarmScriptsUptoCard

/-- THE SECOND FORM's CARD OF 'stolonlaw10.SwarmParses'. -/
def swarmParsesUptoCard : Claim7 := { stood := { row := swarmParsesUptoRow, standIns := [], harness := (true, "ee15f8fce87ffaa5537e1712275f8b1d155c9bd10e9c1acb0a7e0f954d72e106"), looks := true }, kinds := [], alts := [], laidByText := true, laidKinds := [.data], laidTests := true, laidLooks := .later }
def SwarmParsesUptoCardSaid : Prop := Claim7.holds Tryz.pinned (.plain (OpenSpec.upto swarmParsesSpec)) swarmParsesUptoCard

/-- THE SECOND FORM's CARD OF 'stolonlaw10.SwarmScriptBack'. -/
def swarmScriptBackUptoCard : Claim7 := { stood := { row := swarmScriptBackUptoRow, standIns := [], harness := (true, "ee15f8fce87ffaa5537e1712275f8b1d155c9bd10e9c1acb0a7e0f954d72e106"), looks := true }, kinds := [], alts := [], laidByText := true, laidKinds := [.data], laidTests := true, laidLooks := .later }
def SwarmScriptBackUptoCardSaid : Prop := Claim7.holds Tryz.pinned (.plain (OpenSpec.upto swarmScriptBackSpec)) swarmScriptBackUptoCard

/-- THE SECOND FORM's CARD OF 'stolonlaw10.SwarmBounds'. -/
def swarmBoundsUptoCard : Claim7 := { stood := { row := swarmBoundsUptoRow, standIns := [], harness := (true, "ee15f8fce87ffaa5537e1712275f8b1d155c9bd10e9c1acb0a7e0f954d72e106"), looks := true }, kinds := [], alts := [], laidByText := true, laidKinds := [.data], laidTests := true, laidLooks := .later }
def SwarmBoundsUptoCardSaid : Prop := Claim7.holds Tryz.pinned (.plain (OpenSpec.upto swarmBoundsSpec)) swarmBoundsUptoCard

/-- THE SECOND FORM's CARD OF 'stolonlaw10.SwarmAbsent'. -/
def swarmAbsentUptoCard : Claim7 := { stood := { row := swarmAbsentUptoRow, standIns := [], harness := (true, "ee15f8fce87ffaa5537e1712275f8b1d155c9bd10e9c1acb0a7e0f954d72e106"), looks := true }, kinds := [], alts := [], laidByText := true, laidKinds := [.data], laidTests := true, laidLooks := .later }
def SwarmAbsentUptoCardSaid : Prop := Claim7.holds Tryz.pinned (.plain (OpenSpec.upto swarmAbsentSpec)) swarmAbsentUptoCard
end Rows
end Go.Proofs.YtdmnphocgfnlpaaGreatDoor
