/-
  A part of the proof, shortened by a program.
  Conditions: as each theorem states.
-/
import Derived.Test.YtdhpgacmgebjdaaGreatDoorG15
set_option linter.all false
namespace Go.Proofs.YtdhpgacmgebjdaaGreatDoor
open Go Go.Abs Tryz
noncomputable section
def known_runs:outT runF=true:=by kernel_rfl
end
end Go.Proofs.YtdhpgacmgebjdaaGreatDoor
