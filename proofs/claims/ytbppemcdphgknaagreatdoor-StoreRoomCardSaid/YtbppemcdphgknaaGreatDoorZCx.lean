/- A part of the proofs over the seat YtbppemcdphgknaaGreatDoor. -/
import Derived.Test.YtbppemcdphgknaaGreatDoorProg
import Derived.Test.YtbppemcdphgknaaGreatDoorVm28
import Derived.KernelRfl
set_option linter.unusedVariables false
set_option linter.unusedSimpArgs false
namespace Go.Proofs.YtbppemcdphgknaaGreatDoor
open Go Go.Vm
def tt:TT:=[⟨0,0,[],.one⟩,
 ⟨1,8,[.undef],.one⟩,
 ⟨1,8,[.int .i64 0],.int .i64⟩,
 ⟨1,8,[.int .i64 0],.int .i64⟩,
 ⟨1,1,[.bool false],.bool⟩,
 ⟨1,1,[.int .u8 0],.int .u8⟩,
 ⟨1,1,[.int .u8 0],.int .u8⟩,
 ⟨4,24,[.int .i64 0,.int .i64 0,.bool false,.int .u8 0],.struct [(0,2),(1,3),(2,4),(3,6)]⟩,
 ⟨4,24,[.int .i64 0,.int .i64 0,.bool false,.int .u8 0],.struct [(0,2),(1,3),(2,4),(3,6)]⟩,
 ⟨1,16,[.undef],.one⟩,
 ⟨1,16,[.undef],.one⟩,
 ⟨1,16,[.undef],.one⟩,
 ⟨1,8,[.int .u64 0],.int .u64⟩,
 ⟨2,24,[.undef,.int .u64 0],.struct [(0,9),(1,12)]⟩,
 ⟨2,24,[.undef,.int .u64 0],.struct [(0,9),(1,12)]⟩,
 ⟨1,8,[.nilp],.ptr 286⟩,
 ⟨1,8,[.nilp],.ptr 289⟩,
 ⟨1,8,[.nilp],.ptr 297⟩,
 ⟨1,8,[.nilp],.struct [(0,17)]⟩,
 ⟨1,8,[.nilp],.struct [(0,17)]⟩,
 ⟨1,16,[.undef],.one⟩,
 ⟨1,4,[.int .i32 0],.int .i32⟩,
 ⟨3,24,[.int .i64 0,.int .i64 0,.int .i64 0],.struct [(0,3),(1,3),(2,3)]⟩,
 ⟨3,24,[.int .i64 0,.int .i64 0,.int .i64 0],.struct [(0,3),(1,3),(2,3)]⟩,
 ⟨1,24,[.nils],.slice 33⟩,
 ⟨4,4,[.int .u8 0,.int .u8 0,.int .u8 0,.int .u8 0],.array 4 5⟩,
 ⟨4,4,[.int .u8 0,.int .u8 0,.int .u8 0,.int .u8 0],.array 4 5⟩,
 ⟨2,16,[.int .i64 0,.int .i64 0],.array 2 2⟩,
 ⟨1,24,[.nils],.slice 201⟩,
 ⟨2,48,[.nils,.nils],.array 2 28⟩,
 ⟨5,72,[.int .i64 0,.int .i64 0,.int .i64 0,.nils,.nils],.struct [(0,2),(1,27),(3,29)]⟩,
 ⟨5,72,[.int .i64 0,.int .i64 0,.int .i64 0,.nils,.nils],.struct [(0,2),(1,27),(3,29)]⟩,
 ⟨13,104,[.int .u8 0,.int .u8 0,.int .u8 0,.int .u8 0,.int .u8 0,.int .i64 0,.int .i64 0,.int .i64 0,.int .i64 0,.int .i64 0,.nils,.nils,.bool false],.struct [(0,5),(1,26),(5,3),(6,3),(7,31),(12,4)]⟩,
 ⟨13,104,[.int .u8 0,.int .u8 0,.int .u8 0,.int .u8 0,.int .u8 0,.int .i64 0,.int .i64 0,.int .i64 0,.int .i64 0,.int .i64 0,.nils,.nils,.bool false],.struct [(0,5),(1,26),(5,3),(6,3),(7,31),(12,4)]⟩,
 ⟨1,8,[.undef],.one⟩,
 ⟨1,8,[.undef],.one⟩,
 ⟨1,8,[.undef],.one⟩,
 ⟨1,8,[.undef],.one⟩,
 ⟨1,8,[.nilp],.ptr 137⟩,
 ⟨1,8,[.nilp],.ptr 45⟩,
 ⟨0,0,[],.one⟩,
 ⟨1,8,[.undef],.one⟩,
 ⟨1,24,[.nils],.slice 3⟩,
 ⟨1,24,[.nils],.slice 48⟩,
 ⟨4,48,[.int .i64 0,.int .i64 0,.int .i64 0,.nils],.struct [(0,3),(1,3),(2,3),(3,43)]⟩,
 ⟨4,48,[.int .i64 0,.int .i64 0,.int .i64 0,.nils],.struct [(0,3),(1,3),(2,3),(3,43)]⟩,
 ⟨1,24,[.nils],.slice 50⟩,
 ⟨5,32,[.int .u8 0,.int .u8 0,.int .u8 0,.int .u8 0,.nils],.struct [(0,26),(4,46)]⟩,
 ⟨5,32,[.int .u8 0,.int .u8 0,.int .u8 0,.int .u8 0,.nils],.struct [(0,26),(4,46)]⟩,
 ⟨7,88,[.int .i64 0,.int .i64 0,.int .i64 0,.int .i64 0,.int .i64 0,.nils,.nils],.struct [(0,3),(1,3),(2,31)]⟩,
 ⟨7,88,[.int .i64 0,.int .i64 0,.int .i64 0,.int .i64 0,.int .i64 0,.nils,.nils],.struct [(0,3),(1,3),(2,31)]⟩,
 ⟨1,24,[.nils],.slice 52⟩,
 ⟨1,24,[.nils],.slice 72⟩,
 ⟨1,8,[.undef],.one⟩,
 ⟨1,8,[.int .i64 0],.int .i64⟩,
 ⟨1,8,[.undef],.one⟩,
 ⟨0,0,[],.one⟩,
 ⟨1,8,[.undef],.one⟩,
 ⟨1,8,[.undef],.one⟩,
 ⟨1,8,[.undef],.one⟩,
 ⟨1,8,[.undef],.one⟩,
 ⟨1,8,[.undef],.one⟩,
 ⟨1,8,[.undef],.one⟩,
 ⟨1,8,[.undef],.one⟩,
 ⟨1,8,[.undef],.one⟩,
 ⟨1,8,[.undef],.one⟩,
 ⟨1,4,[.int .u32 0],.int .u32⟩,
 ⟨0,0,[],.one⟩,
 ⟨1,8,[.undef],.one⟩,
 ⟨1,8,[.undef],.one⟩,
 ⟨1,8,[.undef],.one⟩,
 ⟨9,80,[.int .u8 0,.int .u8 0,.int .u8 0,.int .u8 0,.int .i64 0,.int .i64 0,.int .i64 0,.nils,.nils],.struct [(0,26),(4,31)]⟩,
 ⟨9,80,[.int .u8 0,.int .u8 0,.int .u8 0,.int .u8 0,.int .i64 0,.int .i64 0,.int .i64 0,.nils,.nils],.struct [(0,26),(4,31)]⟩,
 ⟨1,8,[.undef],.one⟩,
 ⟨1,24,[.nils],.slice 169⟩,
 ⟨2,32,[.nils,.int .i64 0],.struct [(0,74),(1,3)]⟩,
 ⟨2,32,[.nils,.int .i64 0],.struct [(0,74),(1,3)]⟩,
 ⟨1,24,[.nils],.slice 130⟩,
 ⟨6,80,[.nils,.int .i64 0,.nils,.int .i64 0,.int .i64 0,.int .i64 0],.struct [(0,76),(2,77),(3,3),(4,3),(5,3)]⟩,
 ⟨6,80,[.nils,.int .i64 0,.nils,.int .i64 0,.int .i64 0,.int .i64 0],.struct [(0,76),(2,77),(3,3),(4,3),(5,3)]⟩,
 ⟨1,24,[.nils],.slice 103⟩,
 ⟨2,16,[.int .i64 0,.int .i64 0],.array 2 3⟩,
 ⟨1,8,[.undef],.one⟩,
 ⟨1,8,[.nilp],.ptr 164⟩,
 ⟨1,8,[.nilp],.ptr 111⟩,
 ⟨0,0,[],.one⟩,
 ⟨1,8,[.undef],.one⟩,
 ⟨1,8,[.nilp],.ptr 159⟩,
 ⟨1,8,[.undef],.one⟩,
 ⟨1,8,[.undef],.one⟩,
 ⟨1,8,[.undef],.one⟩,
 ⟨1,24,[.nils],.slice 4⟩,
 ⟨0,0,[],.one⟩,
 ⟨1,8,[.undef],.one⟩,
 ⟨1,8,[.undef],.one⟩,
 ⟨1,8,[.undef],.one⟩,
 ⟨1,8,[.undef],.one⟩,
 ⟨1,8,[.undef],.one⟩,
 ⟨1,8,[.undef],.one⟩,
 ⟨1,8,[.nilp],.ptr 101⟩,
 ⟨4,24,[.bool false,.int .i64 0,.int .u32 0,.bool false],.struct [(0,4),(1,3),(2,66),(3,4)]⟩,
 ⟨4,24,[.bool false,.int .i64 0,.int .u32 0,.bool false],.struct [(0,4),(1,3),(2,66),(3,4)]⟩,
 ⟨14,120,[.int .u8 0,.int .i64 0,.int .u8 0,.int .u8 0,.int .u8 0,.int .u8 0,.int .i64 0,.int .i64 0,.int .i64 0,.int .i64 0,.int .i64 0,.nils,.nils,.bool false],.struct [(0,5),(1,3),(2,26),(6,3),(7,3),(8,31),(13,4)]⟩,
 ⟨14,120,[.int .u8 0,.int .i64 0,.int .u8 0,.int .u8 0,.int .u8 0,.int .u8 0,.int .i64 0,.int .i64 0,.int .i64 0,.int .i64 0,.int .i64 0,.nils,.nils,.bool false],.struct [(0,5),(1,3),(2,26),(6,3),(7,3),(8,31),(13,4)]⟩,
 ⟨1,8,[.undef],.one⟩,
 ⟨1,8,[.undef],.one⟩,
 ⟨1,8,[.undef],.one⟩,
 ⟨1,8,[.undef],.one⟩,
 ⟨1,8,[.undef],.one⟩,
 ⟨1,24,[.nils],.slice 39⟩,
 ⟨7,104,[.nils,.int .i64 0,.nils,.int .i64 0,.int .i64 0,.int .i64 0,.nils],.struct [(0,79),(6,109)]⟩,
 ⟨7,104,[.nils,.int .i64 0,.nils,.int .i64 0,.int .i64 0,.int .i64 0,.nils],.struct [(0,79),(6,109)]⟩,
 ⟨1,8,[.undef],.one⟩,
 ⟨1,8,[.undef],.one⟩,
 ⟨1,8,[.undef],.one⟩,
 ⟨1,8,[.undef],.one⟩,
 ⟨1,8,[.undef],.one⟩,
 ⟨1,8,[.undef],.one⟩,
 ⟨1,8,[.undef],.one⟩,
 ⟨1,24,[.nils],.slice 123⟩,
 ⟨1,8,[.undef],.one⟩,
 ⟨1,8,[.undef],.one⟩,
 ⟨1,8,[.undef],.one⟩,
 ⟨14,120,[.int .u8 0,.int .i64 0,.int .u8 0,.int .u8 0,.int .u8 0,.int .u8 0,.int .i64 0,.int .i64 0,.int .i64 0,.int .i64 0,.int .i64 0,.nils,.nils,.bool false],.struct [(0,5),(1,3),(2,26),(6,3),(7,3),(8,31),(13,4)]⟩,
 ⟨1,8,[.undef],.one⟩,
 ⟨1,8,[.undef],.one⟩,
 ⟨1,8,[.undef],.one⟩,
 ⟨1,8,[.undef],.one⟩,
 ⟨1,24,[.nils],.slice 38⟩,
 ⟨1,8,[.undef],.one⟩,
 ⟨4,4,[.int .u8 0,.int .u8 0,.int .u8 0,.int .u8 0],.array 4 5⟩,
 ⟨0,0,[],.one⟩,
 ⟨1,8,[.nilp],.ptr 204⟩,
 ⟨1,8,[.nilp],.ptr 186⟩,
 ⟨2,16,[.nilp,.nilp],.struct [(0,132),(1,133)]⟩,
 ⟨2,16,[.nilp,.nilp],.struct [(0,132),(1,133)]⟩,
 ⟨4,32,[.nilp,.nilp,.int .i64 0,.int .i64 0],.struct [(0,135),(2,3),(3,3)]⟩,
 ⟨4,32,[.nilp,.nilp,.int .i64 0,.int .i64 0],.struct [(0,135),(2,3),(3,3)]⟩,
 ⟨1,8,[.undef],.one⟩,
 ⟨0,0,[],.one⟩,
 ⟨1,8,[.undef],.one⟩,
 ⟨1,8,[.undef],.one⟩,
 ⟨1,8,[.undef],.one⟩,
 ⟨1,8,[.undef],.one⟩,
 ⟨1,8,[.undef],.one⟩,
 ⟨1,8,[.undef],.one⟩,
 ⟨1,8,[.undef],.one⟩,
 ⟨1,8,[.undef],.one⟩,
 ⟨1,8,[.undef],.one⟩,
 ⟨6,80,[.int .i64 0,.int .i64 0,.int .i64 0,.nils,.nils,.bool false],.struct [(0,31),(5,4)]⟩,
 ⟨6,80,[.int .i64 0,.int .i64 0,.int .i64 0,.nils,.nils,.bool false],.struct [(0,31),(5,4)]⟩,
 ⟨1,8,[.undef],.one⟩,
 ⟨1,8,[.undef],.one⟩,
 ⟨1,8,[.undef],.one⟩,
 ⟨1,8,[.undef],.one⟩,
 ⟨1,8,[.undef],.one⟩,
 ⟨2,16,[.int .i64 0,.int .u32 0],.struct [(0,3),(1,66)]⟩,
 ⟨2,16,[.int .i64 0,.int .u32 0],.struct [(0,3),(1,66)]⟩,
 ⟨3,24,[.int .i64 0,.int .u32 0,.bool false],.struct [(0,157),(2,4)]⟩,
 ⟨3,24,[.int .i64 0,.int .u32 0,.bool false],.struct [(0,157),(2,4)]⟩,
 ⟨0,0,[],.one⟩,
 ⟨1,8,[.undef],.one⟩,
 ⟨1,8,[.undef],.one⟩,
 ⟨7,104,[.nils,.int .i64 0,.nils,.int .i64 0,.int .i64 0,.int .i64 0,.nils],.struct [(0,79),(6,128)]⟩,
 ⟨7,104,[.nils,.int .i64 0,.nils,.int .i64 0,.int .i64 0,.int .i64 0,.nils],.struct [(0,79),(6,128)]⟩,
 ⟨1,8,[.undef],.one⟩,
 ⟨1,8,[.undef],.one⟩,
 ⟨1,24,[.nils],.slice 42⟩,
 ⟨2,48,[.nils,.nils],.struct [(0,42),(1,167)]⟩,
 ⟨2,48,[.nils,.nils],.struct [(0,42),(1,167)]⟩,
 ⟨6,24,[.int .u8 0,.int .u8 0,.int .u8 0,.int .u8 0,.int .i64 0,.int .i64 0],.struct [(0,26),(4,27)]⟩,
 ⟨6,24,[.int .u8 0,.int .u8 0,.int .u8 0,.int .u8 0,.int .i64 0,.int .i64 0],.struct [(0,26),(4,27)]⟩,
 ⟨1,8,[.undef],.one⟩,
 ⟨1,24,[.nils],.slice 171⟩,
 ⟨1,8,[.undef],.one⟩,
 ⟨1,8,[.undef],.one⟩,
 ⟨1,8,[.undef],.one⟩,
 ⟨1,8,[.undef],.one⟩,
 ⟨1,8,[.undef],.one⟩,
 ⟨1,8,[.undef],.one⟩,
 ⟨1,8,[.undef],.one⟩,
 ⟨1,8,[.undef],.one⟩,
 ⟨1,8,[.undef],.one⟩,
 ⟨1,8,[.undef],.one⟩,
 ⟨1,24,[.nils],.slice 224⟩,
 ⟨5,72,[.nils,.nils,.int .i64 0,.int .i64 0,.int .i64 0],.struct [(0,184),(1,42),(2,3),(3,3),(4,3)]⟩,
 ⟨5,72,[.nils,.nils,.int .i64 0,.int .i64 0,.int .i64 0],.struct [(0,184),(1,42),(2,3),(3,3),(4,3)]⟩,
 ⟨1,8,[.nilp],.ptr 191⟩,
 ⟨1,8,[.undef],.one⟩,
 ⟨1,8,[.undef],.one⟩,
 ⟨2,32,[.bool false,.nils],.struct [(0,4),(1,46)]⟩,
 ⟨2,32,[.bool false,.nils],.struct [(0,4),(1,46)]⟩,
 ⟨1,8,[.undef],.one⟩,
 ⟨1,8,[.undef],.one⟩,
 ⟨1,8,[.undef],.one⟩,
 ⟨0,0,[],.one⟩,
 ⟨1,8,[.undef],.one⟩,
 ⟨1,8,[.undef],.one⟩,
 ⟨1,8,[.undef],.one⟩,
 ⟨1,8,[.undef],.one⟩,
 ⟨2,16,[.int .i64 0,.int .i64 0],.struct [(0,2),(1,2)]⟩,
 ⟨2,16,[.int .i64 0,.int .i64 0],.struct [(0,2),(1,2)]⟩,
 ⟨1,24,[.nils],.slice 227⟩,
 ⟨4,48,[.int .i64 0,.int .i64 0,.int .i64 0,.nils],.struct [(0,3),(1,3),(2,3),(3,202)]⟩,
 ⟨4,48,[.int .i64 0,.int .i64 0,.int .i64 0,.nils],.struct [(0,3),(1,3),(2,3),(3,202)]⟩,
 ⟨2,32,[.nils,.bool false],.struct [(0,46),(1,4)]⟩,
 ⟨2,32,[.nils,.bool false],.struct [(0,46),(1,4)]⟩,
 ⟨1,8,[.undef],.one⟩,
 ⟨1,8,[.undef],.one⟩,
 ⟨1,8,[.int .u64 0],.int .u64⟩,
 ⟨1,8,[.undef],.one⟩,
 ⟨1,8,[.undef],.one⟩,
 ⟨1,8,[.undef],.one⟩,
 ⟨1,8,[.undef],.one⟩,
 ⟨1,8,[.undef],.one⟩,
 ⟨1,8,[.undef],.one⟩,
 ⟨1,8,[.undef],.one⟩,
 ⟨1,8,[.undef],.one⟩,
 ⟨1,8,[.undef],.one⟩,
 ⟨1,8,[.undef],.one⟩,
 ⟨1,8,[.undef],.one⟩,
 ⟨6,24,[.int .u32 0,.int .u32 0,.int .u32 0,.int .u32 0,.int .u32 0,.int .u32 0],.array 6 66⟩,
 ⟨6,48,[.int .i64 0,.int .i64 0,.int .i64 0,.int .i64 0,.int .i64 0,.int .i64 0],.array 6 3⟩,
 ⟨13,80,[.int .i64 0,.int .u32 0,.int .u32 0,.int .u32 0,.int .u32 0,.int .u32 0,.int .u32 0,.int .i64 0,.int .i64 0,.int .i64 0,.int .i64 0,.int .i64 0,.int .i64 0],.struct [(0,3),(1,221),(7,222)]⟩,
 ⟨13,80,[.int .i64 0,.int .u32 0,.int .u32 0,.int .u32 0,.int .u32 0,.int .u32 0,.int .u32 0,.int .i64 0,.int .i64 0,.int .i64 0,.int .i64 0,.int .i64 0,.int .i64 0],.struct [(0,3),(1,221),(7,222)]⟩,
 ⟨1,8,[.undef],.one⟩,
 ⟨1,8,[.undef],.one⟩,
 ⟨1,8,[.nilp],.ptr 237⟩,
 ⟨3,16,[.int .i64 0,.bool false,.bool false],.struct [(0,3),(1,4),(2,4)]⟩,
 ⟨3,16,[.int .i64 0,.bool false,.bool false],.struct [(0,3),(1,4),(2,4)]⟩,
 ⟨0,0,[],.one⟩,
 ⟨1,8,[.undef],.one⟩,
 ⟨1,8,[.undef],.one⟩,
 ⟨1,8,[.undef],.one⟩,
 ⟨1,8,[.undef],.one⟩,
 ⟨1,8,[.undef],.one⟩,
 ⟨16,256,[.bool false,.nils,.bool false,.nils,.bool false,.nils,.bool false,.nils,.bool false,.nils,.bool false,.nils,.bool false,.nils,.bool false,.nils],.array 8 191⟩,
 ⟨16,256,[.bool false,.nils,.bool false,.nils,.bool false,.nils,.bool false,.nils,.bool false,.nils,.bool false,.nils,.bool false,.nils,.bool false,.nils],.array 8 191⟩,
 ⟨1,8,[.undef],.one⟩,
 ⟨1,8,[.undef],.one⟩,
 ⟨2,16,[.int .i64 0,.bool false],.struct [(0,3),(1,4)]⟩,
 ⟨2,16,[.int .i64 0,.bool false],.struct [(0,3),(1,4)]⟩,
 ⟨1,8,[.undef],.one⟩,
 ⟨0,0,[],.one⟩,
 ⟨1,8,[.undef],.one⟩,
 ⟨1,8,[.int .u64 0],.int .u64⟩,
 ⟨3,24,[.bool false,.int .u64 0,.int .u64 0],.struct [(0,4),(1,245),(2,245)]⟩,
 ⟨3,24,[.bool false,.int .u64 0,.int .u64 0],.struct [(0,4),(1,245),(2,245)]⟩,
 ⟨1,8,[.undef],.one⟩,
 ⟨1,8,[.undef],.one⟩,
 ⟨1,8,[.undef],.one⟩,
 ⟨1,8,[.undef],.one⟩,
 ⟨1,8,[.undef],.one⟩,
 ⟨1,8,[.undef],.one⟩,
 ⟨12,64,[.int .i64 0,.bool false,.bool false,.int .i64 0,.bool false,.bool false,.int .i64 0,.bool false,.bool false,.int .i64 0,.bool false,.bool false],.array 4 229⟩,
 ⟨1,8,[.undef],.one⟩,
 ⟨0,0,[],.one⟩,
 ⟨1,8,[.undef],.one⟩,
 ⟨1,8,[.undef],.one⟩,
 ⟨1,8,[.undef],.one⟩,
 ⟨1,8,[.undef],.one⟩,
 ⟨1,8,[.undef],.one⟩,
 ⟨1,8,[.undef],.one⟩,
 ⟨1,8,[.undef],.one⟩,
 ⟨2,16,[.int .i64 0,.int .u64 0],.struct [(0,2),(1,245)]⟩,
 ⟨2,16,[.int .i64 0,.int .u64 0],.struct [(0,2),(1,245)]⟩,
 ⟨1,8,[.undef],.one⟩,
 ⟨1,8,[.undef],.one⟩,
 ⟨1,8,[.undef],.one⟩,
 ⟨1,8,[.undef],.one⟩,
 ⟨1,8,[.undef],.one⟩,
 ⟨0,0,[],.one⟩,
 ⟨1,8,[.undef],.one⟩,
 ⟨1,8,[.undef],.one⟩,
 ⟨0,0,[],.one⟩,
 ⟨1,8,[.undef],.one⟩,
 ⟨1,8,[.undef],.one⟩,
 ⟨1,8,[.undef],.one⟩,
 ⟨1,24,[.nils],.slice 66⟩,
 ⟨1,8,[.undef],.one⟩,
 ⟨1,8,[.undef],.one⟩,
 ⟨0,0,[],.one⟩,
 ⟨1,8,[.undef],.one⟩,
 ⟨1,8,[.undef],.one⟩,
 ⟨1,8,[.undef],.one⟩,
 ⟨4,40,[.nilp,.nilp,.nilp,.undef],.struct [(0,17),(1,17),(2,17),(3,9)]⟩,
 ⟨4,40,[.nilp,.nilp,.nilp,.undef],.struct [(0,17),(1,17),(2,17),(3,9)]⟩,
 ⟨0,0,[],.array 0 16⟩,
 ⟨0,0,[],.struct [(0,287)]⟩,
 ⟨0,0,[],.struct [(0,287)]⟩,
 ⟨1,1,[.int .u8 0],.int .u8⟩,
 ⟨1,1,[.int .u8 0],.int .u8⟩,
 ⟨1,8,[.undef],.one⟩,
 ⟨1,8,[.nilp],.ptr 5⟩,
 ⟨1,4,[.int .i32 0],.int .i32⟩,
 ⟨1,4,[.int .i32 0],.int .i32⟩,
 ⟨11,48,[.int .u64 0,.int .u64 0,.int .u32 0,.int .u8 0,.int .u8 0,.int .u8 0,.int .u8 0,.undef,.nilp,.int .i32 0,.int .i32 0],.struct [(0,12),(1,12),(2,66),(3,290),(4,5),(5,5),(6,291),(7,292),(8,293),(9,294),(10,295)]⟩,
 ⟨11,48,[.int .u64 0,.int .u64 0,.int .u32 0,.int .u8 0,.int .u8 0,.int .u8 0,.int .u8 0,.undef,.nilp,.int .i32 0,.int .i32 0],.struct [(0,12),(1,12),(2,66),(3,290),(4,5),(5,5),(6,291),(7,292),(8,293),(9,294),(10,295)]⟩,
 ⟨1,8,[.nilp],.one⟩]
theorem ttOk:TOk Tryz.prog tt:=TOk.of_check (by kernel_rfl)
def gv:Nat→V
 | 0=>.lpt 12 [[.int .i64 0,.bool false,.bool false,.int .i64 1,.bool false,.bool true,.int .i64 2,.bool true,.bool true,.int .i64 3,.bool true,.bool false]] 0 0
 | _=>.undef
noncomputable def arOf (l:List (Nat×Nat)) (f:Nat):Nat:=List.rec 0 (fun p _ ih=>match Nat.beq p.1 f with
 | true=>p.2
 | false=>ih) l
noncomputable def cxOf (l:List (Nat×Nat)):Cx DV:={P:=Tryz.prog,T:=tt,flat:=fun t=>[26,27,130,157,201,247].contains t,G:=gv,R:=dvRep DV,hR:=dvOk,hT:=ttOk,hF:=FOk.of_list [26,27,130,157,201,247] (by kernel_rfl),ar:=arOf l}
noncomputable def cx:Cx DV:=cxOf []
theorem mixedOf (l:List (Nat×Nat)):(cxOf l).P.follows .mixedOrders=true:=(by kernel_rfl:Tryz.prog.follows .mixedOrders=true)
theorem mixed:cx.P.follows .mixedOrders=true:=mixedOf []
theorem nbz {n m:Nat} (h:Nat.ble n m=true):n≤m:=Nat.le_of_ble_eq_true h
theorem sl0:(∀(p:Prop) [Decidable p],(decide p=true)=p)∧(∀(p:Prop) [Decidable p],(decide p=false)↔¬p)∧(∀a b:Int,a>b↔b<a)∧(∀a b:Nat,a>b↔b<a)∧(∀{α:Type} [BEq α] [LawfulBEq α] (a b:α),(a != b)=true↔a≠b)∧(∀{α:Type} (a b:α),(a≠b)=¬(a=b))∧(∀{α:Type} [BEq α] [LawfulBEq α] (a b:α),(a==b)=true↔a=b)∧(∀{α:Type} [BEq α] [LawfulBEq α] (a b:α),(a != b)=false↔a=b)∧(∀{α:Type} [BEq α] [LawfulBEq α] (a b:α),(a==b)=false↔a≠b):=⟨fun p _=>decide_eq_true_eq,fun p _=>decide_eq_false_iff_not,fun a b=>Iff.rfl,fun a b=>Iff.rfl,fun a b=>bne_iff_ne,fun a b=>rfl,fun a b=>beq_iff_eq,fun a b=>bne_eq_false_iff_eq,fun a b=>beq_eq_false_iff_ne⟩
theorem sl1:(∀(p:Prop) [Decidable p],(decide p=true)=p)∧(∀(p:Prop) [Decidable p],(decide p=false)↔¬p)∧(∀{α:Type} [BEq α] [LawfulBEq α] (a b:α),(a==b)=true↔a=b)∧(∀{α:Type} [BEq α] [LawfulBEq α] (a b:α),(a==b)=false↔a≠b)∧(∀{α:Type} (a b:α),(a≠b)=¬(a=b))∧(∀{α:Type} [BEq α] [LawfulBEq α] (a b:α),(a != b)=true↔a≠b)∧(∀b:Bool,(¬(b=true))=(b=false))∧(∀a b:Int,a≥b↔b≤a)∧(∀a b:Nat,a≥b↔b≤a)∧(∀a b:Int,a>b↔b<a)∧(∀a b:Nat,a>b↔b<a):=⟨fun p _=>decide_eq_true_eq,fun p _=>decide_eq_false_iff_not,fun a b=>beq_iff_eq,fun a b=>beq_eq_false_iff_ne,fun a b=>rfl,fun a b=>bne_iff_ne,fun b=>Bool.not_eq_true b,fun a b=>Iff.rfl,fun a b=>Iff.rfl,fun a b=>Iff.rfl,fun a b=>Iff.rfl⟩
theorem sl2:(∀(p:Prop) [Decidable p],(decide p=true)=p)∧(∀(p:Prop) [Decidable p],(decide p=false)↔¬p)∧(∀{α:Type} [BEq α] [LawfulBEq α] (a b:α),(a==b)=true↔a=b)∧(∀{α:Type} [BEq α] [LawfulBEq α] (a b:α),(a==b)=false↔a≠b)∧(∀{α:Type} (a b:α),(a≠b)=¬(a=b))∧(∀{α:Type} [BEq α] [LawfulBEq α] (a b:α),(a != b)=true↔a≠b)∧(∀{α:Type} [BEq α] [LawfulBEq α] (a b:α),(a != b)=false↔a=b)∧(∀b:Bool,(¬(b=true))=(b=false))∧(∀a b:Int,a≥b↔b≤a)∧(∀a b:Nat,a≥b↔b≤a)∧(∀a b:Int,a>b↔b<a)∧(∀a b:Nat,a>b↔b<a):=⟨fun p _=>decide_eq_true_eq,fun p _=>decide_eq_false_iff_not,fun a b=>beq_iff_eq,fun a b=>beq_eq_false_iff_ne,fun a b=>rfl,fun a b=>bne_iff_ne,fun a b=>bne_eq_false_iff_eq,fun b=>Bool.not_eq_true b,fun a b=>Iff.rfl,fun a b=>Iff.rfl,fun a b=>Iff.rfl,fun a b=>Iff.rfl⟩
theorem sl3:(∀(p:Prop) [Decidable p],(decide p=true)=p)∧(∀(p:Prop) [Decidable p],(decide p=false)↔¬p)∧(∀{α:Type} [BEq α] [LawfulBEq α] (a b:α),(a==b)=true↔a=b)∧(∀{α:Type} [BEq α] [LawfulBEq α] (a b:α),(a==b)=false↔a≠b)∧(∀{α:Type} (a b:α),(a≠b)=¬(a=b)):=⟨fun p _=>decide_eq_true_eq,fun p _=>decide_eq_false_iff_not,fun a b=>beq_iff_eq,fun a b=>beq_eq_false_iff_ne,fun a b=>rfl⟩
theorem nd0 {P:Prop} (h:P:=by first|exact nbz rfl|decide|decide):P:=h
theorem nd1 {P:Prop} (h:P:=by first|exact nbz rfl|(show indep _ _=true;kernel_rfl)|decide|exact⟨by decide,by decide⟩|exact⟨nbz rfl,allOne_of rfl⟩):P:=h
theorem nd2 {P:Prop} (h:P:=by first|exact nbz rfl|(show indep _ _=true;kernel_rfl)|decide):P:=h
theorem nd3 {P:Prop} (h:P:=by first|exact nbz rfl|(show indep _ _=true;kernel_rfl)|decide|exact⟨by decide,by decide⟩|exact⟨nbz rfl,allOne_of rfl⟩|exact allOne_of rfl|exact⟨by omega,by omega⟩):P:=h
theorem nd4 {P:Prop} (h:P:=by first|exact nbz rfl|(show indep _ _=true;kernel_rfl)|decide|exact⟨by decide,by decide⟩|exact⟨nbz rfl,allOne_of rfl⟩|exact⟨rfl,rfl⟩):P:=h
theorem nd5 {P:Prop} (h:P:=by first|exact nbz rfl|decide|(show indep _ _=true;kernel_rfl)):P:=h
theorem nd6 {P:Prop} (h:P:=by first|exact nbz rfl|decide|decide|(show indep _ _=true;kernel_rfl)):P:=h
theorem nd7 {P:Prop} (h:P:=by first|exact nbz rfl|decide|exact⟨by decide,by decide⟩|exact⟨nbz rfl,allOne_of rfl⟩|(show indep _ _=true;kernel_rfl)):P:=h
theorem nd8 {P:Prop} (h:P:=by first|exact nbz rfl|(show indep _ _=true;kernel_rfl)|decide|exact of_decide_eq_true rfl):P:=h
theorem nd9 {P:Prop} (h:P:=by first|exact nbz rfl|(show indep _ _=true;kernel_rfl)|decide|exact⟨by decide,by decide⟩|exact⟨nbz rfl,allOne_of rfl⟩|exact⟨by omega,by omega⟩|exact⟨rfl,rfl⟩):P:=h
theorem nd10 {P:Prop} (h:P:=by first|exact nbz rfl|(show indep _ _=true;kernel_rfl)|decide):P:=h
theorem nd11 {P:Prop} (h:P:=by first|exact nbz rfl|(show indep _ _=true;kernel_rfl)|decide|exact⟨by decide,by decide⟩):P:=h
theorem nd12 {P:Prop} (h:P:=by first|exact nbz rfl|(show indep _ _=true;kernel_rfl)|decide|exact⟨by decide,by decide⟩|exact⟨nbz rfl,allOne_of rfl⟩|exact allOne_of rfl|exact⟨rfl,rfl⟩):P:=h
theorem kb0 {P:Prop} (h:P:=by
 repeat' (conv=>whnf);first
  | (refine bcase_of (fun hr=>?_) (fun hr=>?_)<;>(try simp only[sl1] at hr)<;>try(exfalso;first|omega|exact hr rfl|(simp at hr;done)|(simp at hr;omega)))
  | (apply And.intro;· first|exact nd3)
  | (apply Exists.intro;apply And.intro;· first|exact rfl)
  | fail
 all_goals (conv=>whnf)
 all_goals rfl):P:=h
theorem kb1 {P:Prop} (h:P:=by
 repeat' (conv=>whnf);first
  | (refine bcase_of (fun hr=>?_) (fun hr=>?_)<;>(try simp only[sl1] at hr)<;>try(exfalso;first|omega|exact hr rfl|(simp at hr;done)|(simp at hr;omega)))
  | (apply And.intro;· first|exact nd3|exact⟨by omega,by rw[lP];omega⟩)
  | (apply Exists.intro;apply And.intro;· first|exact rfl|exact gi)
  | rw[hm]
  | rw[hw]
  | fail
 all_goals (conv=>whnf)
 all_goals rfl):P:=h
theorem kb2 {P:Prop} (h:P:=by
 repeat' (conv=>whnf);first
  | (refine bcase_of (fun hr=>?_) (fun hr=>?_)<;>(try simp only[sl1] at hr)<;>try(exfalso;first|omega|exact hr rfl|(simp at hr;done)|(simp at hr;omega)))
  | (apply And.intro;· first|exact nd3|exact⟨by omega,by rw[lP];omega⟩)
  | (apply Exists.intro;apply And.intro;· first|exact rfl|exact gi|exact gj)
  | rw[hm]
  | rw[hw]
  | rw[hwj]
  | fail
 all_goals (conv=>whnf)
 all_goals rfl):P:=h
theorem kb3 {P:Prop} (h:P:=by
 repeat' (conv=>whnf);first
  | (refine bcase_of (fun hr=>?_) (fun hr=>?_)<;>(try simp only[sl1] at hr)<;>try(exfalso;first|omega|exact hr rfl|(simp at hr;done)|(simp at hr;omega)))
  | (apply And.intro;· first|exact nd3|exact pP)
  | (apply Exists.intro;apply And.intro;· first|exact rfl|exact c1)
  | fail
 all_goals (conv=>whnf)
 all_goals rfl):P:=h
theorem kb4 {P:Prop} (h:P:=by
 repeat' (conv=>whnf);first
  | (refine bcase_of (fun hr=>?_) (fun hr=>?_)<;>(try simp only[sl2] at hr)<;>try(exfalso;first|omega|exact hr rfl|(simp at hr;done)|(simp at hr;omega)))
  | (apply And.intro;· first|exact nd3)
  | (apply Exists.intro;apply And.intro;· first|exact rfl)
  | fail
 all_goals (conv=>whnf)
 all_goals rfl):P:=h
theorem kb5 {P:Prop} (h:P:=by
 repeat' (conv=>whnf);first
  | (refine bcase_of (fun hr=>?_) (fun hr=>?_)<;>(try simp only[smag_cells,sl2] at hr)<;>try(exfalso;first|omega|exact hr rfl|(simp at hr;done)|(simp at hr;omega)))
  | (apply And.intro;· first|exact nd3|exact pP|exact pQ)
  | (apply Exists.intro;apply And.intro;· first|exact rfl|exact cM)
  | fail
 all_goals (conv=>whnf)
 all_goals rfl):P:=h
theorem kb6 {P:Prop} (h:P:=by
 repeat' (conv=>whnf);first
  | (refine bcase_of (fun hr=>?_) (fun hr=>?_)<;>(try simp only[smag_cells,sl2] at hr)<;>try(exfalso;first|omega|exact hr rfl|(simp at hr;done)|(simp at hr;omega)))
  | (apply And.intro;· first|exact nd3|exact pP|exact pQ)
  | (apply Exists.intro;apply And.intro;· first|exact rfl|exact cM|exact cS0|exact cS1|exact cK0|exact cK1)
  | fail
 all_goals (conv=>whnf)
 all_goals first|rfl|(exfalso;omega)):P:=h
theorem kb7 {P:Prop} (h:P:=by
 repeat' (conv=>whnf);first
  | (refine bcase_of (fun hr=>?_) (fun hr=>?_)<;>(try simp only[smag_cells,sl2] at hr)<;>try(exfalso;first|omega|exact hr rfl|(simp at hr;done)|(simp at hr;omega)))
  | (apply And.intro;· first|exact nd3|exact pP|exact pQ)
  | (apply Exists.intro;apply And.intro;· first|exact rfl|exact cG0)
  | fail
 all_goals (conv=>whnf)
 all_goals first|rfl|(exfalso;omega)):P:=h
theorem kb8 {P:Prop} (h:P:=by
 repeat' (conv=>whnf);first
  | (refine bcase_of (fun hr=>?_) (fun hr=>?_)<;>(try simp only[smag_cells,sl2] at hr)<;>try(exfalso;first|omega|exact hr rfl|(simp at hr;done)|(simp at hr;omega)))
  | (apply And.intro;· first|exact nd3|exact pP|exact pQ)
  | (apply Exists.intro;apply And.intro;· first|exact rfl|exact cG0|exact cK0|exact cW0|exact cO0)
  | fail
 all_goals (conv=>whnf)
 all_goals first|rfl|(exfalso;omega)):P:=h
theorem kb9 {P:Prop} (h:P:=by
 repeat' (conv=>whnf);first
  | (refine bcase_of (fun hr=>?_) (fun hr=>?_)<;>(try simp only[smag_cells,sl2] at hr)<;>try(exfalso;first|omega|exact hr rfl|(simp at hr;done)|(simp at hr;omega)))
  | (apply And.intro;· first|exact nd3|exact pP|exact pQ)
  | (apply Exists.intro;apply And.intro;· first|exact rfl|exact cG0|exact cK0|exact cW0|exact cO0|exact cG1|exact cK1|exact cW1|exact cO1)
  | fail
 all_goals (conv=>whnf)
 all_goals first|rfl|(exfalso;omega)):P:=h
theorem kb10 {P:Prop} (h:P:=by
 repeat' (conv=>whnf);first
  | (refine bcase_of (fun hr=>?_) (fun hr=>?_)<;>(try simp only[sl2] at hr)<;>try(exfalso;first|omega|exact hr rfl|(simp at hr;done)|(simp at hr;omega)|(simp[hne] at hr;done)|(simp at hr;exact hxy (Prod.ext hr.1 hr.2))|(simp at hr;exact h2 hr)|(simp_all;done)))
  | (apply And.intro;· first|exact nd3)
  | (apply Exists.intro;apply And.intro;· first|exact rfl)
  | fail
 all_goals (conv=>whnf)
 all_goals rfl):P:=h
theorem kb11 {P:Prop} (h:P:=by
 repeat' (conv=>whnf);first
  | (refine bcase_of (fun hr=>?_) (fun hr=>?_)<;>(try simp only[sl2] at hr)<;>try(exfalso;first|omega|exact hr rfl|(simp at hr;done)|(simp at hr;omega)))
  | (apply And.intro;· first|exact nd3|exact pP|exact pQ)
  | (apply Exists.intro;apply And.intro;· first|exact rfl|exact c)
  | fail
 all_goals (conv=>whnf)
 all_goals first|rfl|(subst hr;rfl)):P:=h
theorem kb12 {P:Prop} (h:P:=by
 repeat' (conv=>whnf);first
  | (refine bcase_of (fun hr=>?_) (fun hr=>?_)<;>(try simp only[sl2] at hr)<;>try(exfalso;first|omega|exact hr rfl|(simp at hr;done)|(simp_all;done)|(simp at hr;omega)))
  | (apply And.intro;· first|exact nd3|exact⟨by omega,by rw[lL];omega⟩|exact pp|exact pq)
  | (apply Exists.intro;apply And.intro;· first|exact rfl|exact cK|exact cI|exact cW|exact cY|exact gi)
  | rw[hw]
  | fail
 all_goals (conv=>whnf)
 all_goals rfl):P:=h
theorem kb13 {P:Prop} (h:P:=by
 repeat' (conv=>whnf);first
  | (apply And.intro;· first|exact nd2|exact pL)
  | (apply Exists.intro;apply And.intro;· first|exact rfl)
  | fail
 all_goals try rw[hw]
 all_goals exact ih ⟨i+1,e.v,true⟩ ⟨hgo,hz1,fun _=>⟨hz2,e,hx,rfl⟩,fun h=>absurd h (Nat.succ_ne_zero _),hg2⟩ (by show l.length-(i+1)<l.length-i;omega)):P:=h
theorem kb14 {P:Prop} (h:P:=by
 repeat' (conv=>whnf);first
  | (apply And.intro;· first|exact nd2|exact pL)
  | (apply Exists.intro;apply And.intro;· first|exact rfl)
  | fail
 all_goals try rw[hw]
 all_goals exact ih ⟨i+1,e.v,false⟩ ⟨hgo,hz1,fun _=>⟨hz2,e,hx,rfl⟩,fun h=>absurd h (Nat.succ_ne_zero _),hg2⟩ (by show l.length-(i+1)<l.length-i;omega)):P:=h
theorem kb15 {P:Prop} (h:P:=by
 repeat' (conv=>whnf);first
  | (refine bcase_of (fun hr=>?_) (fun hr=>?_)<;>(try simp only[sl2] at hr)<;>try(exfalso;first|omega|exact hr rfl|(simp at hr;done)|(simp_all;done)|(simp at hr;omega)))
  | (apply And.intro;· first|exact nd3|exact⟨by omega,by rw[lL];omega⟩|exact pp|exact pq)
  | (apply Exists.intro;apply And.intro;· first|exact rfl|exact cK|exact cI|exact cW|exact cY|exact gi|exact gj)
  | rw[hw]
  | rw[hwj]
  | fail
 all_goals (conv=>whnf)
 all_goals rfl):P:=h
theorem kb16 {P:Prop} (h:P:=by
 repeat' (conv=>whnf);first
  | (refine bcase_of (fun hr=>?_) (fun hr=>?_)<;>(try simp only[sl2] at hr)<;>try(exfalso;first|omega|exact hr rfl|(simp at hr;done)|(simp at hr;omega)))
  | (apply And.intro;· first|exact nd3|exact⟨by omega,by rw[lL];omega⟩|exact pL|exact pp|exact pq)
  | (apply Exists.intro;apply And.intro;· first|exact rfl|exact cG)
  | fail
 all_goals (conv=>whnf)
 all_goals rfl):P:=h
theorem kb17 {P:Prop} (h:P:=by
 repeat' (conv=>whnf);first
  | (refine bcase_of (fun hr=>?_) (fun hr=>?_)<;>(try simp only[sl2] at hr)<;>try(exfalso;first|omega|exact hr rfl|(simp at hr;done)|(simp at hr;omega)))
  | (apply And.intro;· first|exact nd3|exact⟨by omega,by rw[lL];omega⟩|exact pL|exact pp|exact pq|exact pcp|exact pcq|exact pO|exact⟨pO,trivial⟩)
  | (apply Exists.intro;apply And.intro;· first|exact rfl|exact cG)
  | fail
 all_goals (conv=>whnf)
 all_goals rfl):P:=h
theorem kb18 {P:Prop} (h:P:=by
 repeat' (conv=>whnf);first
  | (refine bcase_of (fun hr=>?_) (fun hr=>?_)<;>(try simp only[sl2] at hr)<;>try(exfalso;first|omega|exact hr rfl|(simp at hr;done)|(simp at hr;omega)))
  | (apply And.intro;· first|exact nd3|exact⟨by omega,by rw[lL];omega⟩|exact pL|exact pp|exact pq|exact pcp|exact pcq|exact pO|exact⟨pO,trivial⟩|exact pPr)
  | (apply Exists.intro;apply And.intro;· first|exact rfl|exact cG|exact cY|exact cCell|exact cPr)
  | rw[hw0]
  | rw[hwk]
  | (apply Exists.intro;apply Exists.intro;apply Exists.intro;apply And.intro;· exact cCopy _)
  | (apply Exists.intro;apply And.intro;· exact cPut _)
  | fail
 all_goals (conv=>whnf)
 all_goals rfl):P:=h
theorem kb19 {P:Prop} (h:P:=by
 repeat' (conv=>whnf);first
  | (refine bcase_of (fun hr=>?_) (fun hr=>?_)<;>(try simp only[sl2] at hr)<;>try(exfalso;first|omega|exact hr rfl|(simp at hr;done)|(simp at hr;omega)))
  | (apply And.intro;· first|exact nd3|exact⟨by omega,by rw[lL];omega⟩|exact pL|exact pp|exact pq|exact pcp|exact pcq|exact pO|exact⟨pO,trivial⟩|exact pPr)
  | (apply Exists.intro;apply And.intro;· first|exact rfl|exact cG|exact cY|exact cCell|exact cPr|exact gi)
  | rw[hw0]
  | rw[hwk]
  | (apply Exists.intro;apply Exists.intro;apply Exists.intro;apply And.intro;· exact cCopy _)
  | (apply Exists.intro;apply And.intro;· exact cPut _)
  | fail
 all_goals (conv=>whnf)
 all_goals rfl):P:=h
theorem kb20 {P:Prop} (h:P:=by
 repeat' (conv=>whnf);first
  | (refine bcase_of (fun hr=>?_) (fun hr=>?_)<;>(try simp only[sl2] at hr)<;>try(exfalso;first|omega|exact hr rfl|(simp at hr;done)|(simp at hr;omega)))
  | (apply And.intro;· first|exact nd3|exact⟨by omega,by rw[lL];omega⟩|exact pL|exact pp|exact pq|exact pcp|exact pcq|exact pO|exact⟨pO,trivial⟩)
  | (apply Exists.intro;apply And.intro;· first|exact rfl|exact cG|exact cY|exact gi)
  | rw[hw0]
  | fail
 all_goals (conv=>whnf)
 all_goals rfl):P:=h
theorem kb21 {P:Prop} (h:P:=by
 repeat' (conv=>whnf);first
  | (refine bcase_of (fun hr=>?_) (fun hr=>?_)<;>try(exfalso;simp at hr;done))
  | (apply And.intro;· first|exact nd4|exact pure_E _)
  | (apply Exists.intro;apply And.intro;· first|exact rfl|exact c3|exact pages_get hg|exact c2)
  | (apply Exists.intro;apply Exists.intro;apply Exists.intro;apply And.intro;· first|(apply ATriple.callN (at_some cap taken low ps hl i h0 hg hp ht)<;>rfl))
  | fail
 all_goals refine⟨[.shut (0,0) (slD (cap) (taken) (low) (ps))],?_⟩
 all_goals (conv=>whnf)
 all_goals refine⟨shut_sl (18,1) (cap) (taken) (low) _ (rfl) (by simp),?_⟩
 all_goals (conv=>whnf)
 all_goals exact⟨rfl,rfl⟩):P:=h
theorem kb22 {P:Prop} (h:P:=by
 repeat' (conv=>whnf);first
  | (apply And.intro;· first|exact nd7)
  | (apply Exists.intro;apply And.intro;· first|exact rfl|exact c1|exact c2)
  | fail
 all_goals (conv=>whnf)
 all_goals rfl):P:=h
theorem kb23 {P:Prop} (h:P:=by
 repeat' (conv=>whnf);first
  | (refine bcase_of (fun hr=>?_) (fun hr=>?_)<;>(try simp at hr)<;>try omega)
  | (apply And.intro;· first|exact nd1)
  | (apply Exists.intro;apply And.intro;· first|exact rfl|exact c)
  | fail
 all_goals (conv=>whnf)
 all_goals rfl):P:=h
theorem kb24 {P:Prop} (h:P:=by
 repeat' (conv=>whnf);first
  | (refine bcase_of (fun hr=>?_) (fun hr=>?_)<;>(try simp at hr)<;>try(exfalso;omega))
  | (apply And.intro;· first|exact nd4)
  | (apply Exists.intro;apply And.intro;· first|exact rfl)
  | (apply Exists.intro;apply Exists.intro;apply Exists.intro;apply And.intro;· first|(refine ATriple.callN (cS) ?_ ?_ ?_<;>rfl))
  | fail
 all_goals (conv=>whnf)
 all_goals refine⟨[],?_⟩
 all_goals (conv=>whnf)
 all_goals exact⟨rfl,rfl⟩):P:=h
theorem kb25 {P:Prop} (h:P:=by
 repeat' (conv=>whnf);first
  | (refine bcase_of (fun hr=>?_) (fun hr=>?_)<;>(try simp only[sl3] at hr)<;>try(exfalso;first|omega|(simp at hr;omega)|(simp at hr;done)))
  | (apply And.intro;· first|exact nd4|exact⟨shut_tr _ _ L F root h n rfl rfl rfl rfl,rfl,rfl⟩)
  | (apply Exists.intro;apply And.intro;· first|exact rfl)
  | (apply Exists.intro;apply Exists.intro;apply Exists.intro;apply And.intro;· first|(refine ATriple.callC (cN) ?_ ?_<;>(intro d;rfl)))
  | fail
 all_goals (conv=>whnf)
 all_goals refine⟨[.shut (0,0) (trD L F root h n)],?_⟩
 all_goals (conv=>whnf)
 all_goals refine⟨shut_tr _ _ L F root h n rfl rfl rfl rfl,?_⟩
 all_goals (conv=>whnf)
 all_goals exact⟨rfl,rfl⟩):P:=h
theorem kb26 {P:Prop} (h:P:=by
 repeat' (conv=>whnf);first
  | (refine bcase_of (fun hr=>?_) (fun hr=>?_)<;>(try simp only[bs] at hr)<;>try(exfalso;first|omega|(simp at hr;done)))
  | (apply And.intro;· first|exact nd12)
  | (apply Exists.intro;apply And.intro;· first|exact rfl)
  | fail
 all_goals (conv=>whnf)
 all_goals rfl):P:=h
theorem kb27 {P:Prop} (h:P:=by
 repeat' (conv=>whnf);first
  | (refine bcase_of (fun hr=>?_) (fun hr=>?_)<;>(try simp only[bs] at hr)<;>try(exfalso;first|omega|(simp at hr;done)))
  | (apply And.intro;· first|(show indep _ _=true;kernel_rfl)|exact n0|exact n1|exact n2|exact⟨by omega,by omega⟩|(show Nat.beq _ _=false;rfl)|exact nd12)
  | (apply Exists.intro;apply And.intro;· first|exact rfl|exact c0|exact c1|exact gi|exact gl|exact ga|exact gb)
  | rw[hw0]
  | fail
 all_goals (conv=>whnf)
 all_goals rfl):P:=h
theorem kb28 {P:Prop} (h:P:=by
 repeat' (conv=>whnf);first
  | (refine bcase_of (fun hr=>?_) (fun hr=>?_)<;>(try simp only[bs] at hr)<;>try(exfalso;first|omega|(simp at hr;done)))
  | (apply And.intro;· first|(show indep _ _=true;kernel_rfl)|exact n0|exact n1|exact n2|exact⟨by omega,by omega⟩|(show Nat.beq _ _=false;rfl)|exact nd12)
  | (apply Exists.intro;apply And.intro;· first|exact rfl|exact c0|exact c1|exact gi|exact gl|exact ga|exact gb)
  | rw[hw0]
  | rw[hw]
  | fail
 all_goals (conv=>whnf)
 all_goals rfl):P:=h
theorem kb29 {P:Prop} (h:P:=by
 repeat' (conv=>whnf);first
  | (refine bcase_of (fun hr=>?_) (fun hr=>?_)<;>(try simp only[bs] at hr)<;>try(exfalso;first|omega|(simp at hr;done)))
  | (apply And.intro;· first|(show indep _ _=true;kernel_rfl)|exact n0|exact n1|exact n2|exact⟨by omega,by omega⟩|(show Nat.beq _ _=false;rfl)|exact nd12)
  | (apply Exists.intro;apply And.intro;· first|exact rfl|exact c0|exact c1|exact gi|exact gl|exact ga|exact gb)
  | rw[hw0]
  | rw[hw]
  | fail
 all_goals (conv=>whnf)
 all_goals exact ih (k+1,m) ⟨by simp only;omega,hr2⟩ (by simp only;omega)):P:=h
theorem kb30 {P:Prop} (h:P:=by
 repeat' (conv=>whnf);first
  | (refine bcase_of (fun hr=>?_) (fun hr=>?_)<;>(try simp only[bs] at hr)<;>try(exfalso;first|omega|(simp at hr;done)))
  | (apply And.intro;· first|(show indep _ _=true;kernel_rfl)|exact n0|exact n1|exact n2|exact⟨by omega,by omega⟩|(show Nat.beq _ _=false;rfl)|exact nd12)
  | (apply Exists.intro;apply And.intro;· first|exact rfl|exact c0|exact c1|exact gi|exact gl|exact ga|exact gb)
  | rw[hw0]
  | rw[hw]
  | rw[hw2]
  | fail
 all_goals (conv=>whnf)
 all_goals rfl):P:=h
theorem kb31 {P:Prop} (h:P:=by
 repeat' (conv=>whnf);first
  | (refine bcase_of (fun hr=>?_) (fun hr=>?_)<;>(try simp only[bs] at hr)<;>try(exfalso;first|omega|(simp at hr;done)))
  | (apply And.intro;· first|(show indep _ _=true;kernel_rfl)|exact n0|exact n1|exact n2|exact q0|exact q1|exact⟨by omega,by omega⟩|(show Nat.beq _ _=false;rfl)|exact nd12)
  | (apply Exists.intro;apply And.intro;· first|exact rfl|exact c0|exact c1|exact c2|exact gi|exact gl|exact ga|exact gb)
  | rw[hw0]
  | rw[hw]
  | rw[hw2]
  | fail
 all_goals (conv=>whnf)
 all_goals rfl):P:=h
theorem kb32 {P:Prop} (h:P:=by
 repeat' (conv=>whnf);first
  | (refine bcase_of (fun hr=>?_) (fun hr=>?_)<;>(try simp only[bs] at hr)<;>try(exfalso;first|omega|(simp at hr;done)))
  | (apply And.intro;· first|(show indep _ _=true;kernel_rfl)|exact n0|exact n1|exact n2|exact q0|exact q1|exact⟨by omega,by omega⟩|(show Nat.beq _ _=false;rfl)|exact nd12)
  | (apply Exists.intro;apply And.intro;· first|exact rfl|exact c0|exact c1|exact c2|exact gi|exact gl|exact ga|exact gb)
  | rw[hw0]
  | rw[hw]
  | rw[hw2]
  | rw[wa]
  | rw[wb]
  | fail
 all_goals (conv=>whnf)
 all_goals rfl):P:=h
theorem kb33 {P:Prop} (h:P:=by
 repeat' (conv=>whnf);first
  | (refine bcase_of (fun hr=>?_) (fun hr=>?_)<;>(try simp only[bs] at hr)<;>try(exfalso;first|omega|(simp at hr;done)))
  | (apply And.intro;· first|(show indep _ _=true;kernel_rfl)|exact n0|exact n1|exact n2|exact q0|exact q1|exact⟨by omega,by omega⟩|(show Nat.beq _ _=false;rfl)|exact nd12)
  | (apply Exists.intro;apply And.intro;· first|exact rfl|exact c0|exact c1|exact c2|exact gi|exact gl|exact ga|exact gb)
  | rw[hw0]
  | rw[hw]
  | rw[hw2]
  | rw[wa]
  | rw[wb]
  | fail
 all_goals (conv=>whnf)
 all_goals exact ih (0+1,m) ⟨by simp only;omega,hr2⟩ (by simp only;omega)):P:=h
theorem kb34 {P:Prop} (h:P:=by
 repeat' (conv=>whnf);first
  | (refine bcase_of (fun hr=>?_) (fun hr=>?_)<;>(try simp only[bs] at hr)<;>try(exfalso;first|omega|(simp at hr;done)))
  | (apply And.intro;· first|(show indep _ _=true;kernel_rfl)|exact n0|exact n1|exact n2|exact q0|exact q1|exact⟨by omega,by omega⟩|(show Nat.beq _ _=false;rfl)|exact nd12)
  | (apply Exists.intro;apply And.intro;· first|exact rfl|exact c0|exact c1|exact c2|exact gi|exact gl|exact ga|exact gb)
  | rw[hw0]
  | rw[hw]
  | rw[hw2]
  | rw[wa]
  | rw[wb]
  | fail
 all_goals (conv=>whnf)
 all_goals exact ih (1+1,m) ⟨by simp only;omega,hr2⟩ (by simp only;omega)):P:=h
theorem kb35 {P:Prop} (h:P:=by
 repeat' (conv=>whnf);first
  | (refine bcase_of (fun hr=>?_) (fun hr=>?_)<;>(try simp only[bs] at hr)<;>try(exfalso;first|omega|(simp at hr;done)))
  | (apply And.intro;· first|(show indep _ _=true;kernel_rfl)|exact n0|exact n1|exact n2|exact q0|exact q1|exact⟨by omega,by omega⟩|(show Nat.beq _ _=false;rfl)|exact nd12)
  | (apply Exists.intro;apply And.intro;· first|exact rfl|exact c0|exact c1|exact c2|exact gi|exact gl|exact ga|exact gb)
  | rw[hw0]
  | rw[hw]
  | rw[hw2]
  | rw[wa]
  | rw[wb]
  | fail
 all_goals (conv=>whnf)
 all_goals exact ih (2+1,m) ⟨by simp only;omega,hr2⟩ (by simp only;omega)):P:=h
theorem kb36 {P:Prop} (h:P:=by
 repeat' (conv=>whnf);first
  | (refine bcase_of (fun hr=>?_) (fun hr=>?_)<;>(try simp only[bs] at hr)<;>try(exfalso;first|omega|(simp at hr;done)))
  | (apply And.intro;· first|(show indep _ _=true;kernel_rfl)|exact n0|exact n1|exact n2|exact q0|exact q1|exact⟨by omega,by omega⟩|(show Nat.beq _ _=false;rfl)|exact nd12)
  | (apply Exists.intro;apply And.intro;· first|exact rfl|exact c0|exact c1|exact c2|exact gi|exact gl|exact ga|exact gb)
  | rw[hw0]
  | rw[hw]
  | rw[hw2]
  | rw[wa]
  | rw[wb]
  | fail
 all_goals (conv=>whnf)
 all_goals exact ih (3+1,m) ⟨by simp only;omega,hr2⟩ (by simp only;omega)):P:=h
theorem kb37 {P:Prop} (h:P:=by
 repeat' (conv=>whnf);first
  | (refine bcase_of (fun hr=>?_) (fun hr=>?_)<;>(try simp only[bs] at hr)<;>try(exfalso;first|omega|(simp at hr;done)))
  | (apply And.intro;· first|(show indep _ _=true;kernel_rfl)|exact n3|exact n0|exact n1|exact n2|exact q0|exact q1|exact⟨by omega,by omega⟩|(show Nat.beq _ _=false;rfl)|exact nd12)
  | (apply Exists.intro;apply And.intro;· first|exact rfl|exact c0|exact c1|exact c2|exact cB|exact cZ|exact gi)
  | rw[hw0]
  | rw[hw]
  | rw[ht]
  | fail
 all_goals (conv=>whnf)
 all_goals rfl):P:=h
theorem kb38 {P:Prop} (h:P:=by
 repeat' (conv=>whnf);first
  | (refine bcase_of (fun hr=>?_) (fun hr=>?_)<;>(try simp only[bs] at hr)<;>try(exfalso;first|omega|(simp at hr;done)))
  | (apply And.intro;· first|(show indep _ _=true;kernel_rfl)|exact n0|exact n2|exact n1|exact⟨by omega,by omega⟩|exact⟨by decide,by decide⟩|(show Nat.beq _ _=false;rfl)|exact nd12)
  | (apply Exists.intro;apply And.intro;· first|exact rfl)
  | fail
 all_goals (conv=>whnf)
 all_goals rfl):P:=h
theorem kb39 {P:Prop} (h:P:=by
 repeat' (conv=>whnf);first
  | (refine bcase_of (fun hr=>?_) (fun hr=>?_)<;>(try simp only[bs] at hr)<;>try(exfalso;first|omega|(simp at hr;done)))
  | (apply And.intro;· first|exact True.intro|(show indep _ _=true;kernel_rfl)|exact n0|exact n1|exact⟨by omega,by omega⟩|(show 0+((k:Int)).toNat<xs.length;omega)|exact⟨rfl,by decide⟩|(show Nat.beq _ _=false;rfl)|exact nd12)
  | (apply Exists.intro;apply And.intro;· first|exact rfl|exact c0|exact c1|exact hgy)
  | rw[hw]
  | rw[hw2]
  | rw[hds]
  | (apply Exists.intro;apply Exists.intro;apply And.intro;· first|(refine ATriple.callS (aL) ?_ ?_<;>(intro m d;rfl)))
  | fail
 all_goals (conv=>whnf)
 all_goals exact ih (k+1) (by omega) (by omega)):P:=h
theorem kb40 {P:Prop} (h:P:=by
 repeat' (conv=>whnf);first
  | (refine bcase_of (fun hr=>?_) (fun hr=>?_)<;>(try simp only[bs] at hr)<;>try(exfalso;first|omega|(simp at hr;done)))
  | (apply And.intro;· first|exact True.intro|(show indep _ _=true;kernel_rfl)|exact n0|exact n1|exact n2|exact n3|exact⟨n2,trivial⟩|exact⟨n2,n3,trivial⟩|exact⟨by omega,by omega⟩|exact⟨rfl,by decide⟩|(show Nat.beq _ _=false;rfl)|exact nd12)
  | (apply Exists.intro;apply And.intro;· first|exact rfl|exact hgy)
  | (apply Exists.intro;apply Exists.intro;apply Exists.intro;apply And.intro;· first|(refine ATriple.callN (aN) ?_ ?_ ?_<;>rfl))
  | rw[hds]
  | (apply Exists.intro;apply Exists.intro;apply And.intro;· first|(refine ATriple.callS (aS) ?_ ?_<;>(intro m d;rfl)))
  | fail
 all_goals (conv=>whnf)
 all_goals refine⟨[.shut (0,0) (stoD x xs)],?_⟩
 all_goals (conv=>whnf)
 all_goals refine⟨shut_stq (13,1) x xs (rfl) (by simp),?_⟩
 all_goals (conv=>whnf)
 all_goals exact⟨rfl,rfl⟩):P:=h
theorem kb41 {P:Prop} (h:P:=by
 repeat' (conv=>whnf);first
  | (refine bcase_of (fun hr=>?_) (fun hr=>?_)<;>(try simp only[bs] at hr)<;>try(exfalso;first|omega|(simp at hr;done)))
  | (apply And.intro;· first|exact True.intro|(show indep _ _=true;kernel_rfl)|exact n0|exact n1|exact n2|exact n3|exact⟨n2,trivial⟩|exact⟨n2,n3,trivial⟩|exact⟨by omega,by omega⟩|exact⟨rfl,by decide⟩|(show Nat.beq _ _=false;rfl)|exact nd12)
  | (apply Exists.intro;apply And.intro;· first|exact rfl|exact hgy)
  | (apply Exists.intro;apply Exists.intro;apply Exists.intro;apply And.intro;· first|(refine ATriple.callN (aN) ?_ ?_ ?_<;>rfl))
  | rw[hds]
  | (apply Exists.intro;apply Exists.intro;apply And.intro;· first|(refine ATriple.callS (aS) ?_ ?_<;>(intro m d;rfl)))
  | fail
 all_goals (conv=>whnf)
 all_goals refine⟨[.shut (0,0) (stoD x xs)],?_⟩
 all_goals (conv=>whnf)
 all_goals refine⟨shut_stq (16,1) x xs (rfl) (by simp),?_⟩
 all_goals (conv=>whnf)
 all_goals exact⟨rfl,rfl⟩):P:=h
theorem kb42 {P:Prop} (h:P:=by
 repeat' (conv=>whnf);first
  | (refine bcase_of (fun hr=>?_) (fun hr=>?_)<;>(try simp only[bs] at hr)<;>try(exfalso;first|omega|(simp at hr;done)))
  | (apply And.intro;· first|exact True.intro|(show indep _ _=true;kernel_rfl)|exact n0|exact n1|exact n2|exact n3|exact⟨n2,trivial⟩|exact⟨n2,n3,trivial⟩|exact⟨by omega,by omega⟩|exact⟨rfl,by decide⟩|(show Nat.beq _ _=false;rfl)|exact nd12)
  | (apply Exists.intro;apply And.intro;· first|exact rfl|exact hgy)
  | (apply Exists.intro;apply Exists.intro;apply Exists.intro;apply And.intro;· first|(refine ATriple.callN (aN) ?_ ?_ ?_<;>rfl))
  | rw[hds]
  | (apply Exists.intro;apply Exists.intro;apply And.intro;· first|(refine ATriple.callS (aS) ?_ ?_<;>(intro m d;rfl)))
  | fail
 all_goals (conv=>whnf)
 all_goals refine⟨[.shut (0,0) (stoD x xs)],?_⟩
 all_goals (conv=>whnf)
 all_goals refine⟨shut_stq (19,1) x xs (rfl) (by simp),?_⟩
 all_goals (conv=>whnf)
 all_goals exact⟨rfl,rfl⟩):P:=h
theorem kb43 {P:Prop} (h:P:=by
 repeat' (conv=>whnf);first
  | (refine bcase_of (fun hr=>?_) (fun hr=>?_)<;>(try simp only[bs] at hr)<;>try(exfalso;first|omega|(simp at hr;done)))
  | (apply And.intro;· first|exact True.intro|(show indep _ _=true;kernel_rfl)|exact n0|exact n1|exact n2|exact n3|exact⟨by omega,by omega⟩|exact⟨rfl,by decide⟩|(show Nat.beq _ _=false;rfl)|exact nd12)
  | (apply Exists.intro;apply And.intro;· first|exact rfl|exact hgy|exact gv1|exact c0|exact hgy1)
  | (apply Exists.intro;apply Exists.intro;apply Exists.intro;apply And.intro;· first|(refine ATriple.callN (aN) ?_ ?_ ?_<;>rfl))
  | rw[hsl y1]
  | (apply Exists.intro;apply Exists.intro;apply And.intro;· first|(refine ATriple.callS (aP) ?_ ?_<;>(intro m d;rfl)))
  | (apply Exists.intro;apply And.intro;· first|(refine ATriple.callK (aL) ?_ ?_ ?_ ?_<;>first|rfl|(intro d;rfl)))
  | fail
 all_goals (conv=>whnf)
 all_goals refine⟨[.shut (0,0) (stoD x (xs.set j y1))],?_⟩
 all_goals (conv=>whnf)
 all_goals refine⟨shut_stq (65,1) x (xs.set j y1) (by first|rfl|exact hsl y1) (by simp),?_⟩
 all_goals (conv=>whnf)
 all_goals exact⟨rfl,rfl⟩):P:=h
theorem kb44 {P:Prop} (h:P:=by
 repeat' (conv=>whnf);first
  | (refine bcase_of (fun hr=>?_) (fun hr=>?_)<;>(try simp only[bs] at hr)<;>try(exfalso;first|omega|(simp at hr;done)))
  | (apply And.intro;· first|(show indep _ _=true;kernel_rfl)|exact n0|exact n1|exact n2|exact m0|exact m1|exact⟨by omega,by omega⟩|exact⟨by simp,by simp⟩|exact⟨rfl,by decide⟩|(show Nat.beq _ _=false;rfl)|exact nd12)
  | (apply Exists.intro;apply And.intro;· first|exact rfl|exact c0|exact c1|exact cW|exact gt)
  | rw[hwk]
  | rw[hwn]
  | rw[hw8]
  | rw[hwt]
  | rw[hwm]
  | rw[hq8]
  | fail
 all_goals (conv=>whnf)
 all_goals rfl):P:=h
theorem kb45 {P:Prop} (h:P:=by
 repeat' (conv=>whnf);first
  | (refine bcase_of (fun hr=>?_) (fun hr=>?_)<;>(try simp only[bs] at hr)<;>try(exfalso;first|omega|(simp at hr;done)))
  | (apply And.intro;· first|(show indep _ _=true;kernel_rfl)|exact n0|exact n1|exact n2|exact m0|exact m1|exact⟨by omega,by omega⟩|exact⟨by simp,by simp⟩|exact⟨rfl,by decide⟩|(show Nat.beq _ _=false;rfl)|exact nd12)
  | (apply Exists.intro;apply And.intro;· first|exact rfl|exact c0|exact c1|exact cW|exact gt)
  | (apply Exists.intro;apply Exists.intro;apply Exists.intro;apply And.intro;· first|(refine ATriple.callN (p1) ?_ ?_ ?_<;>rfl))
  | rw[hwk]
  | rw[hwn]
  | rw[hw8]
  | rw[hwt]
  | rw[hwm]
  | rw[hq8]
  | (apply Exists.intro;apply And.intro;· first|(refine ATriple.callK (k1) ?_ ?_ ?_ ?_<;>first|rfl|(intro d;rfl)))
  | fail
 all_goals (conv=>whnf)
 all_goals exact hih):P:=h
end Go.Proofs.YtbppemcdphgknaaGreatDoor
