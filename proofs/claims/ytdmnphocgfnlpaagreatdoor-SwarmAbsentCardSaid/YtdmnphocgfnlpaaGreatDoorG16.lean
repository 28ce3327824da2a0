/-
  The swarm: its known run.
  Conditions: as each theorem states.
-/
import Derived.Test.YtdmnphocgfnlpaaGreatDoorG15
namespace Go.Proofs.YtdmnphocgfnlpaaGreatDoor
open Go Go.Abs
theorem known_runs : runQ 8 (fun v _ => isTrueV v) = true := by kernel_rfl
end Go.Proofs.YtdmnphocgfnlpaaGreatDoor

