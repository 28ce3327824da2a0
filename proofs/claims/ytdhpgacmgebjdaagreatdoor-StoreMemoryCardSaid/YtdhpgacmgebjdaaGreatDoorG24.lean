/-
  A part of the proof, shortened by a program.
  Conditions: as each theorem states.
-/
import Derived.Test.YtdhpgacmgebjdaaGreatDoorG23
import Derived.Shelf.SlSortCmp.WholeK
set_option linter.all false
namespace Go.Abs
open Go.Sort
noncomputable section
end
end Go.Abs
