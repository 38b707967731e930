/- A part of the proofs over the seat YtbppemcdphgknaaGreatDoor. -/
import Derived.Test.YtbppemcdphgknaaGreatDoorC7
set_option linter.unusedVariables false
set_option linter.unusedSimpArgs false
set_option maxRecDepth 100000
set_option maxHeartbeats 40000000
namespace Go.Proofs.YtbppemcdphgknaaGreatDoor
open Go Go.Vm
set_option maxRecDepth 100000
set_option maxHeartbeats 40000000
set_option linter.unusedSimpArgs false
set_option linter.unusedVariables false
end Go.Proofs.YtbppemcdphgknaaGreatDoor
