/- A part of the proofs over the seat YtbppemcdphgknaaGreatDoor. -/
import Derived.Test.YtbppemcdphgknaaGreatDoorT3
set_option linter.unusedVariables false
set_option linter.unusedSimpArgs false
set_option maxRecDepth 100000
set_option maxHeartbeats 40000000
namespace Go.Proofs.YtbppemcdphgknaaGreatDoor
open Go Go.Vm
set_option maxRecDepth 100000
set_option maxHeartbeats 40000000
set_option linter.unusedSimpArgs false
set_option linter.unusedVariables false
variable {m keep cap:Int} {Tb:Tab} {i:Nat} {x:DV}
end Go.Proofs.YtbppemcdphgknaaGreatDoor
namespace Go.Proofs.YtbppemcdphgknaaGreatDoor
open Go Go.Vm
def e5:En:=⟨0,0,1,5,0,[(5,1)],[]⟩
def e1:En:=⟨0,0,1,1,0,[(1,1)],[]⟩
theorem in64s {n:Int} (h : -100≤n∧n≤100):in64 n:=by unfold in64;omega
theorem e5_in:EnIn e5:=⟨by decide,by decide,fun r hr=>by obtain rfl:=List.mem_singleton.1 hr;exact⟨in64s (by decide),in64s (by decide)⟩,fun r hr=>(by cases hr),in64s (by decide),in64s (by decide)⟩
def kA:Int:=16777216
def t5:Tab:=[(kA,[⟨1,1,1,5,0,[(5,1)],[]⟩])]
theorem w1:tPut 1 2 1 [] kA 1 e5 true 0=(0,t5):=by kernel_rfl
theorem w2:tPut 1 2 1 t5 0 1 e5 true 0=(10,t5):=by kernel_rfl
theorem w3:tUndo 1 1 t5 kA 1=(true,[]):=by kernel_rfl
theorem w4:tPut 1 2 0 [] kA 1 e5 true 0=(10,[]):=by kernel_rfl
end Go.Proofs.YtbppemcdphgknaaGreatDoor
