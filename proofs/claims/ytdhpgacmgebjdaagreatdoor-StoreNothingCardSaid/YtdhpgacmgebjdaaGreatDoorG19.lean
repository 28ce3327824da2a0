/-
  The store: its known run.
  Conditions: as each theorem states.
-/
import Derived.Test.YtdhpgacmgebjdaaGreatDoorG18
namespace Go.Proofs.YtdhpgacmgebjdaaGreatDoor
open Go Go.Abs
theorem known_runs : runQ 12 (fun v _ => isTrueV v) = true := by kernel_rfl
end Go.Proofs.YtdhpgacmgebjdaaGreatDoor

