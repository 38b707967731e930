/- A part of the proofs over the seat YtbppemcdphgknaaGreatDoor. -/
import Derived.Test.YtbppemcdphgknaaGreatDoorR2
set_option linter.unusedVariables false
set_option linter.unusedSimpArgs false
set_option maxRecDepth 100000
set_option maxHeartbeats 40000000
namespace Go.Proofs.YtbppemcdphgknaaGreatDoor.T
open Go Go.Vm
set_option maxRecDepth 100000
set_option maxHeartbeats 4000000
set_option linter.unusedSimpArgs false
set_option linter.unusedVariables false
end Go.Proofs.YtbppemcdphgknaaGreatDoor.T
namespace Go.Proofs.YtbppemcdphgknaaGreatDoor.T
open Go Go.Vm
theorem out_none {l:List (Int×Int)} {k:Int} (h:∀x∈l,x.1≠k):out l k=l:=by
 unfold out
 exact List.filter_eq_self.2 fun x hx=>by simpa using h x hx
end Go.Proofs.YtbppemcdphgknaaGreatDoor.T
