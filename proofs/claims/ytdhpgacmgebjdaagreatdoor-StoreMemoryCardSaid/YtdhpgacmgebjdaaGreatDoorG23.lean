/-
  A part of the proof, shortened by a program.
  Conditions: as each theorem states.
-/
import Derived.Test.YtdhpgacmgebjdaaGreatDoorG22
import Derived.Shelf.SlSortCmp.WholeK
import Derived.Test.YtdhpgacmgebjdaaGreatDoorProg
import Derived.KernelRfl
set_option linter.all false
namespace Go.Proofs.YtdhpgacmgebjdaaGreatDoor.W
open Go Go.Proofs
open Go.Shelf Go.RowKit Go.Lib Go.Sort
noncomputable section
end
end Go.Proofs.YtdhpgacmgebjdaaGreatDoor.W
