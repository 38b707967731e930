/- A part of the proofs over the seat YtbppemcdphgknaaDoor. -/
import Derived.Test.YtbppemcdphgknaaDoorProg
import Derived.Test.YtbppemcdphgknaaDoorVm28
import Derived.KernelRfl
set_option linter.unusedVariables false
set_option linter.unusedSimpArgs false
namespace Go.Proofs.YtbppemcdphgknaaDoor
open Go Go.Vm
def tt:TT:=[⟨0,0,[],.one⟩,
 ⟨1,8,[.undef],.one⟩,
 ⟨1,8,[.int .i64 0],.int .i64⟩,
 ⟨1,8,[.int .i64 0],.int .i64⟩,
 ⟨1,1,[.bool false],.bool⟩,
 ⟨1,1,[.int .u8 0],.int .u8⟩,
 ⟨1,1,[.int .u8 0],.int .u8⟩,
 ⟨4,24,[.int .i64 0,.int .i64 0,.bool false,.int .u8 0],.struct [(0,2),(1,3),(2,4),(3,6)]⟩,
 ⟨4,24,[.int .i64 0,.int .i64 0,.bool false,.int .u8 0],.struct [(0,2),(1,3),(2,4),(3,6)]⟩,
 ⟨1,16,[.undef],.one⟩,
 ⟨1,16,[.undef],.one⟩,
 ⟨1,16,[.undef],.one⟩,
 ⟨1,8,[.int .u64 0],.int .u64⟩,
 ⟨2,24,[.undef,.int .u64 0],.struct [(0,9),(1,12)]⟩,
 ⟨2,24,[.undef,.int .u64 0],.struct [(0,9),(1,12)]⟩,
 ⟨1,8,[.nilp],.ptr 228⟩,
 ⟨1,8,[.nilp],.ptr 231⟩,
 ⟨1,8,[.nilp],.ptr 239⟩,
 ⟨1,8,[.nilp],.struct [(0,17)]⟩,
 ⟨1,8,[.nilp],.struct [(0,17)]⟩,
 ⟨1,16,[.undef],.one⟩,
 ⟨1,4,[.int .i32 0],.int .i32⟩,
 ⟨4,32,[.int .i64 0,.int .i64 0,.int .i64 0,.int .i64 0],.struct [(0,3),(1,3),(2,3),(3,3)]⟩,
 ⟨4,32,[.int .i64 0,.int .i64 0,.int .i64 0,.int .i64 0],.struct [(0,3),(1,3),(2,3),(3,3)]⟩,
 ⟨1,24,[.nils],.slice 34⟩,
 ⟨1,8,[.undef],.one⟩,
 ⟨1,8,[.undef],.one⟩,
 ⟨1,24,[.nils],.slice 3⟩,
 ⟨2,16,[.int .i64 0,.int .i64 0],.array 2 2⟩,
 ⟨1,24,[.nils],.slice 74⟩,
 ⟨2,48,[.nils,.nils],.array 2 29⟩,
 ⟨5,72,[.int .i64 0,.int .i64 0,.int .i64 0,.nils,.nils],.struct [(0,2),(1,28),(3,30)]⟩,
 ⟨5,72,[.int .i64 0,.int .i64 0,.int .i64 0,.nils,.nils],.struct [(0,2),(1,28),(3,30)]⟩,
 ⟨7,88,[.int .i64 0,.int .i64 0,.int .i64 0,.int .i64 0,.int .i64 0,.nils,.nils],.struct [(0,3),(1,3),(2,32)]⟩,
 ⟨7,88,[.int .i64 0,.int .i64 0,.int .i64 0,.int .i64 0,.int .i64 0,.nils,.nils],.struct [(0,3),(1,3),(2,32)]⟩,
 ⟨1,8,[.undef],.one⟩,
 ⟨0,0,[],.one⟩,
 ⟨1,8,[.undef],.one⟩,
 ⟨6,80,[.int .i64 0,.int .i64 0,.int .i64 0,.nils,.nils,.bool false],.struct [(0,32),(5,4)]⟩,
 ⟨6,80,[.int .i64 0,.int .i64 0,.int .i64 0,.nils,.nils,.bool false],.struct [(0,32),(5,4)]⟩,
 ⟨1,8,[.undef],.one⟩,
 ⟨1,8,[.undef],.one⟩,
 ⟨1,8,[.undef],.one⟩,
 ⟨1,8,[.undef],.one⟩,
 ⟨1,8,[.undef],.one⟩,
 ⟨1,24,[.nils],.slice 47⟩,
 ⟨8,96,[.int .i64 0,.int .i64 0,.int .i64 0,.int .i64 0,.int .i64 0,.nils,.nils,.bool false],.struct [(0,3),(1,3),(2,32),(7,4)]⟩,
 ⟨8,96,[.int .i64 0,.int .i64 0,.int .i64 0,.int .i64 0,.int .i64 0,.nils,.nils,.bool false],.struct [(0,3),(1,3),(2,32),(7,4)]⟩,
 ⟨1,8,[.undef],.one⟩,
 ⟨0,0,[],.one⟩,
 ⟨1,8,[.undef],.one⟩,
 ⟨2,32,[.nils,.bool false],.struct [(0,24),(1,4)]⟩,
 ⟨2,32,[.nils,.bool false],.struct [(0,24),(1,4)]⟩,
 ⟨1,8,[.undef],.one⟩,
 ⟨1,8,[.undef],.one⟩,
 ⟨11,136,[.int .i64 0,.int .i64 0,.nils,.int .i64 0,.int .i64 0,.int .i64 0,.int .i64 0,.int .i64 0,.nils,.nils,.bool false],.struct [(0,3),(1,3),(2,24),(3,47)]⟩,
 ⟨11,136,[.int .i64 0,.int .i64 0,.nils,.int .i64 0,.int .i64 0,.int .i64 0,.int .i64 0,.int .i64 0,.nils,.nils,.bool false],.struct [(0,3),(1,3),(2,24),(3,47)]⟩,
 ⟨1,8,[.undef],.one⟩,
 ⟨1,8,[.undef],.one⟩,
 ⟨1,8,[.undef],.one⟩,
 ⟨1,24,[.nils],.slice 63⟩,
 ⟨1,24,[.nils],.slice 39⟩,
 ⟨1,24,[.nils],.struct [(0,45)]⟩,
 ⟨1,24,[.nils],.struct [(0,45)]⟩,
 ⟨1,8,[.undef],.one⟩,
 ⟨1,8,[.undef],.one⟩,
 ⟨4,4,[.int .u8 0,.int .u8 0,.int .u8 0,.int .u8 0],.array 4 5⟩,
 ⟨4,4,[.int .u8 0,.int .u8 0,.int .u8 0,.int .u8 0],.array 4 5⟩,
 ⟨1,8,[.nilp],.ptr 114⟩,
 ⟨1,8,[.undef],.one⟩,
 ⟨1,8,[.undef],.one⟩,
 ⟨1,8,[.int .i64 0],.int .i64⟩,
 ⟨1,8,[.undef],.one⟩,
 ⟨2,16,[.int .i64 0,.int .i64 0],.struct [(0,2),(1,2)]⟩,
 ⟨2,16,[.int .i64 0,.int .i64 0],.struct [(0,2),(1,2)]⟩,
 ⟨1,8,[.undef],.one⟩,
 ⟨1,24,[.nils],.slice 80⟩,
 ⟨1,8,[.undef],.one⟩,
 ⟨1,8,[.undef],.one⟩,
 ⟨9,80,[.int .u8 0,.int .u8 0,.int .u8 0,.int .u8 0,.int .i64 0,.int .i64 0,.int .i64 0,.nils,.nils],.struct [(0,67),(4,32)]⟩,
 ⟨9,80,[.int .u8 0,.int .u8 0,.int .u8 0,.int .u8 0,.int .i64 0,.int .i64 0,.int .i64 0,.nils,.nils],.struct [(0,67),(4,32)]⟩,
 ⟨1,8,[.undef],.one⟩,
 ⟨1,8,[.undef],.one⟩,
 ⟨1,8,[.undef],.one⟩,
 ⟨1,8,[.undef],.one⟩,
 ⟨1,8,[.undef],.one⟩,
 ⟨6,24,[.int .u8 0,.int .u8 0,.int .u8 0,.int .u8 0,.int .i64 0,.int .i64 0],.struct [(0,67),(4,28)]⟩,
 ⟨6,24,[.int .u8 0,.int .u8 0,.int .u8 0,.int .u8 0,.int .i64 0,.int .i64 0],.struct [(0,67),(4,28)]⟩,
 ⟨1,8,[.undef],.one⟩,
 ⟨1,8,[.undef],.one⟩,
 ⟨1,8,[.undef],.one⟩,
 ⟨1,8,[.undef],.one⟩,
 ⟨1,8,[.undef],.one⟩,
 ⟨1,8,[.undef],.one⟩,
 ⟨1,8,[.undef],.one⟩,
 ⟨1,8,[.undef],.one⟩,
 ⟨1,8,[.undef],.one⟩,
 ⟨2,16,[.int .i64 0,.bool false],.struct [(0,3),(1,4)]⟩,
 ⟨2,16,[.int .i64 0,.bool false],.struct [(0,3),(1,4)]⟩,
 ⟨1,8,[.undef],.one⟩,
 ⟨1,8,[.undef],.one⟩,
 ⟨1,8,[.undef],.one⟩,
 ⟨1,8,[.int .u64 0],.int .u64⟩,
 ⟨3,24,[.bool false,.int .u64 0,.int .u64 0],.struct [(0,4),(1,102),(2,102)]⟩,
 ⟨3,24,[.bool false,.int .u64 0,.int .u64 0],.struct [(0,4),(1,102),(2,102)]⟩,
 ⟨1,8,[.undef],.one⟩,
 ⟨1,8,[.undef],.one⟩,
 ⟨1,8,[.nilp],.ptr 140⟩,
 ⟨1,8,[.undef],.one⟩,
 ⟨1,8,[.nilp],.ptr 143⟩,
 ⟨1,8,[.undef],.one⟩,
 ⟨2,16,[.nilp,.nilp],.struct [(0,107),(1,109)]⟩,
 ⟨2,16,[.nilp,.nilp],.struct [(0,107),(1,109)]⟩,
 ⟨4,32,[.nilp,.nilp,.int .i64 0,.int .i64 0],.struct [(0,112),(2,3),(3,3)]⟩,
 ⟨4,32,[.nilp,.nilp,.int .i64 0,.int .i64 0],.struct [(0,112),(2,3),(3,3)]⟩,
 ⟨1,8,[.undef],.one⟩,
 ⟨1,24,[.nils],.slice 87⟩,
 ⟨1,8,[.undef],.one⟩,
 ⟨1,4,[.int .u32 0],.int .u32⟩,
 ⟨0,0,[],.one⟩,
 ⟨1,8,[.undef],.one⟩,
 ⟨1,8,[.undef],.one⟩,
 ⟨1,8,[.undef],.one⟩,
 ⟨0,0,[],.one⟩,
 ⟨1,8,[.undef],.one⟩,
 ⟨1,24,[.nils],.slice 2⟩,
 ⟨1,8,[.undef],.one⟩,
 ⟨0,0,[],.one⟩,
 ⟨1,8,[.undef],.one⟩,
 ⟨3,16,[.int .i64 0,.bool false,.bool false],.struct [(0,3),(1,4),(2,4)]⟩,
 ⟨3,16,[.int .i64 0,.bool false,.bool false],.struct [(0,3),(1,4),(2,4)]⟩,
 ⟨0,0,[],.one⟩,
 ⟨1,8,[.undef],.one⟩,
 ⟨0,0,[],.one⟩,
 ⟨1,8,[.undef],.one⟩,
 ⟨1,8,[.undef],.one⟩,
 ⟨1,8,[.undef],.one⟩,
 ⟨1,8,[.undef],.one⟩,
 ⟨1,24,[.nils],.slice 175⟩,
 ⟨4,48,[.int .i64 0,.int .i64 0,.int .i64 0,.nils],.struct [(0,3),(1,3),(2,3),(3,138)]⟩,
 ⟨4,48,[.int .i64 0,.int .i64 0,.int .i64 0,.nils],.struct [(0,3),(1,3),(2,3),(3,138)]⟩,
 ⟨1,24,[.nils],.slice 171⟩,
 ⟨5,72,[.nils,.nils,.int .i64 0,.int .i64 0,.int .i64 0],.struct [(0,141),(1,27),(2,3),(3,3),(4,3)]⟩,
 ⟨5,72,[.nils,.nils,.int .i64 0,.int .i64 0,.int .i64 0],.struct [(0,141),(1,27),(2,3),(3,3),(4,3)]⟩,
 ⟨1,8,[.undef],.one⟩,
 ⟨1,8,[.undef],.one⟩,
 ⟨1,8,[.undef],.one⟩,
 ⟨1,8,[.undef],.one⟩,
 ⟨1,8,[.undef],.one⟩,
 ⟨1,8,[.undef],.one⟩,
 ⟨1,8,[.undef],.one⟩,
 ⟨1,8,[.undef],.one⟩,
 ⟨1,8,[.nilp],.ptr 155⟩,
 ⟨1,8,[.undef],.one⟩,
 ⟨2,32,[.bool false,.nils],.struct [(0,4),(1,24)]⟩,
 ⟨2,32,[.bool false,.nils],.struct [(0,4),(1,24)]⟩,
 ⟨1,8,[.undef],.one⟩,
 ⟨1,8,[.undef],.one⟩,
 ⟨1,8,[.undef],.one⟩,
 ⟨1,8,[.undef],.one⟩,
 ⟨2,16,[.int .i64 0,.int .u64 0],.struct [(0,2),(1,102)]⟩,
 ⟨2,16,[.int .i64 0,.int .u64 0],.struct [(0,2),(1,102)]⟩,
 ⟨1,8,[.undef],.one⟩,
 ⟨1,8,[.undef],.one⟩,
 ⟨12,64,[.int .i64 0,.bool false,.bool false,.int .i64 0,.bool false,.bool false,.int .i64 0,.bool false,.bool false,.int .i64 0,.bool false,.bool false],.array 4 130⟩,
 ⟨1,8,[.undef],.one⟩,
 ⟨1,8,[.int .u64 0],.int .u64⟩,
 ⟨1,8,[.undef],.one⟩,
 ⟨6,24,[.int .u32 0,.int .u32 0,.int .u32 0,.int .u32 0,.int .u32 0,.int .u32 0],.array 6 118⟩,
 ⟨6,48,[.int .i64 0,.int .i64 0,.int .i64 0,.int .i64 0,.int .i64 0,.int .i64 0],.array 6 3⟩,
 ⟨13,80,[.int .i64 0,.int .u32 0,.int .u32 0,.int .u32 0,.int .u32 0,.int .u32 0,.int .u32 0,.int .i64 0,.int .i64 0,.int .i64 0,.int .i64 0,.int .i64 0,.int .i64 0],.struct [(0,3),(1,168),(7,169)]⟩,
 ⟨13,80,[.int .i64 0,.int .u32 0,.int .u32 0,.int .u32 0,.int .u32 0,.int .u32 0,.int .u32 0,.int .i64 0,.int .i64 0,.int .i64 0,.int .i64 0,.int .i64 0,.int .i64 0],.struct [(0,3),(1,168),(7,169)]⟩,
 ⟨1,8,[.undef],.one⟩,
 ⟨1,8,[.undef],.one⟩,
 ⟨1,8,[.undef],.one⟩,
 ⟨1,8,[.nilp],.ptr 177⟩,
 ⟨16,256,[.bool false,.nils,.bool false,.nils,.bool false,.nils,.bool false,.nils,.bool false,.nils,.bool false,.nils,.bool false,.nils,.bool false,.nils],.array 8 155⟩,
 ⟨16,256,[.bool false,.nils,.bool false,.nils,.bool false,.nils,.bool false,.nils,.bool false,.nils,.bool false,.nils,.bool false,.nils,.bool false,.nils],.array 8 155⟩,
 ⟨1,8,[.undef],.one⟩,
 ⟨2,16,[.int .i64 0,.int .i64 0],.array 2 3⟩,
 ⟨1,8,[.undef],.one⟩,
 ⟨1,8,[.undef],.one⟩,
 ⟨1,8,[.undef],.one⟩,
 ⟨1,8,[.undef],.one⟩,
 ⟨1,8,[.undef],.one⟩,
 ⟨1,8,[.undef],.one⟩,
 ⟨0,0,[],.one⟩,
 ⟨1,8,[.undef],.one⟩,
 ⟨1,8,[.undef],.one⟩,
 ⟨1,8,[.undef],.one⟩,
 ⟨1,8,[.undef],.one⟩,
 ⟨1,8,[.undef],.one⟩,
 ⟨1,8,[.undef],.one⟩,
 ⟨0,0,[],.one⟩,
 ⟨1,8,[.undef],.one⟩,
 ⟨1,8,[.undef],.one⟩,
 ⟨1,8,[.undef],.one⟩,
 ⟨1,8,[.undef],.one⟩,
 ⟨1,8,[.undef],.one⟩,
 ⟨0,0,[],.one⟩,
 ⟨1,8,[.undef],.one⟩,
 ⟨1,8,[.undef],.one⟩,
 ⟨0,0,[],.one⟩,
 ⟨1,8,[.undef],.one⟩,
 ⟨1,8,[.undef],.one⟩,
 ⟨1,8,[.int .i64 0],.int .i64⟩,
 ⟨0,0,[],.one⟩,
 ⟨1,8,[.undef],.one⟩,
 ⟨1,8,[.undef],.one⟩,
 ⟨1,8,[.undef],.one⟩,
 ⟨1,8,[.undef],.one⟩,
 ⟨1,8,[.undef],.one⟩,
 ⟨1,8,[.undef],.one⟩,
 ⟨1,8,[.undef],.one⟩,
 ⟨1,24,[.nils],.slice 118⟩,
 ⟨1,8,[.undef],.one⟩,
 ⟨1,8,[.undef],.one⟩,
 ⟨1,8,[.int .u64 0],.int .u64⟩,
 ⟨1,8,[.undef],.one⟩,
 ⟨1,8,[.undef],.one⟩,
 ⟨1,8,[.undef],.one⟩,
 ⟨1,8,[.nilp],.ptr 3⟩,
 ⟨1,8,[.undef],.one⟩,
 ⟨1,8,[.nilp],.ptr 217⟩,
 ⟨0,0,[],.one⟩,
 ⟨1,8,[.undef],.one⟩,
 ⟨1,8,[.undef],.one⟩,
 ⟨4,40,[.nilp,.nilp,.nilp,.undef],.struct [(0,17),(1,17),(2,17),(3,9)]⟩,
 ⟨4,40,[.nilp,.nilp,.nilp,.undef],.struct [(0,17),(1,17),(2,17),(3,9)]⟩,
 ⟨0,0,[],.array 0 16⟩,
 ⟨0,0,[],.struct [(0,229)]⟩,
 ⟨0,0,[],.struct [(0,229)]⟩,
 ⟨1,1,[.int .u8 0],.int .u8⟩,
 ⟨1,1,[.int .u8 0],.int .u8⟩,
 ⟨1,8,[.undef],.one⟩,
 ⟨1,8,[.nilp],.ptr 5⟩,
 ⟨1,4,[.int .i32 0],.int .i32⟩,
 ⟨1,4,[.int .i32 0],.int .i32⟩,
 ⟨11,48,[.int .u64 0,.int .u64 0,.int .u32 0,.int .u8 0,.int .u8 0,.int .u8 0,.int .u8 0,.undef,.nilp,.int .i32 0,.int .i32 0],.struct [(0,12),(1,12),(2,118),(3,232),(4,5),(5,5),(6,233),(7,234),(8,235),(9,236),(10,237)]⟩,
 ⟨11,48,[.int .u64 0,.int .u64 0,.int .u32 0,.int .u8 0,.int .u8 0,.int .u8 0,.int .u8 0,.undef,.nilp,.int .i32 0,.int .i32 0],.struct [(0,12),(1,12),(2,118),(3,232),(4,5),(5,5),(6,233),(7,234),(8,235),(9,236),(10,237)]⟩,
 ⟨1,8,[.nilp],.one⟩]
theorem ttOk:TOk Tryd.prog tt:=TOk.of_check (by kernel_rfl)
def gv:Nat→V
 | 0=>.lpt 12 [[.int .i64 0,.bool false,.bool false,.int .i64 1,.bool false,.bool true,.int .i64 2,.bool true,.bool true,.int .i64 3,.bool true,.bool false]] 0 0
 | _=>.undef
noncomputable def arOf (l:List (Nat×Nat)) (f:Nat):Nat:=List.rec 0 (fun p _ ih=>match Nat.beq p.1 f with
 | true=>p.2
 | false=>ih) l
noncomputable def cxOf (l:List (Nat×Nat)):Cx DV:={P:=Tryd.prog,T:=tt,flat:=fun t=>[28,67,74,104].contains t,G:=gv,R:=dvRep DV,hR:=dvOk,hT:=ttOk,hF:=FOk.of_list [28,67,74,104] (by kernel_rfl),ar:=arOf l}
noncomputable def cx:Cx DV:=cxOf []
theorem mixedOf (l:List (Nat×Nat)):(cxOf l).P.follows .mixedOrders=true:=(by kernel_rfl:Tryd.prog.follows .mixedOrders=true)
theorem mixed:cx.P.follows .mixedOrders=true:=mixedOf []
theorem nbz {n m:Nat} (h:Nat.ble n m=true):n≤m:=Nat.le_of_ble_eq_true h
theorem sl0:(∀(p:Prop) [Decidable p],(decide p=true)=p)∧(∀(p:Prop) [Decidable p],(decide p=false)↔¬p)∧(∀a b:Int,a>b↔b<a)∧(∀a b:Nat,a>b↔b<a)∧(∀{α:Type} [BEq α] [LawfulBEq α] (a b:α),(a != b)=true↔a≠b)∧(∀{α:Type} (a b:α),(a≠b)=¬(a=b))∧(∀{α:Type} [BEq α] [LawfulBEq α] (a b:α),(a==b)=true↔a=b)∧(∀{α:Type} [BEq α] [LawfulBEq α] (a b:α),(a != b)=false↔a=b)∧(∀{α:Type} [BEq α] [LawfulBEq α] (a b:α),(a==b)=false↔a≠b):=⟨fun p _=>decide_eq_true_eq,fun p _=>decide_eq_false_iff_not,fun a b=>Iff.rfl,fun a b=>Iff.rfl,fun a b=>bne_iff_ne,fun a b=>rfl,fun a b=>beq_iff_eq,fun a b=>bne_eq_false_iff_eq,fun a b=>beq_eq_false_iff_ne⟩
theorem sl1:(∀(p:Prop) [Decidable p],(decide p=true)=p)∧(∀(p:Prop) [Decidable p],(decide p=false)↔¬p)∧(∀{α:Type} [BEq α] [LawfulBEq α] (a b:α),(a==b)=true↔a=b)∧(∀{α:Type} [BEq α] [LawfulBEq α] (a b:α),(a==b)=false↔a≠b)∧(∀{α:Type} (a b:α),(a≠b)=¬(a=b))∧(∀{α:Type} [BEq α] [LawfulBEq α] (a b:α),(a != b)=true↔a≠b)∧(∀b:Bool,(¬(b=true))=(b=false))∧(∀a b:Int,a≥b↔b≤a)∧(∀a b:Nat,a≥b↔b≤a)∧(∀a b:Int,a>b↔b<a)∧(∀a b:Nat,a>b↔b<a):=⟨fun p _=>decide_eq_true_eq,fun p _=>decide_eq_false_iff_not,fun a b=>beq_iff_eq,fun a b=>beq_eq_false_iff_ne,fun a b=>rfl,fun a b=>bne_iff_ne,fun b=>Bool.not_eq_true b,fun a b=>Iff.rfl,fun a b=>Iff.rfl,fun a b=>Iff.rfl,fun a b=>Iff.rfl⟩
theorem sl2:(∀(p:Prop) [Decidable p],(decide p=true)=p)∧(∀(p:Prop) [Decidable p],(decide p=false)↔¬p)∧(∀{α:Type} [BEq α] [LawfulBEq α] (a b:α),(a==b)=true↔a=b)∧(∀{α:Type} [BEq α] [LawfulBEq α] (a b:α),(a==b)=false↔a≠b)∧(∀{α:Type} (a b:α),(a≠b)=¬(a=b))∧(∀{α:Type} [BEq α] [LawfulBEq α] (a b:α),(a != b)=true↔a≠b)∧(∀{α:Type} [BEq α] [LawfulBEq α] (a b:α),(a != b)=false↔a=b)∧(∀b:Bool,(¬(b=true))=(b=false))∧(∀a b:Int,a≥b↔b≤a)∧(∀a b:Nat,a≥b↔b≤a)∧(∀a b:Int,a>b↔b<a)∧(∀a b:Nat,a>b↔b<a):=⟨fun p _=>decide_eq_true_eq,fun p _=>decide_eq_false_iff_not,fun a b=>beq_iff_eq,fun a b=>beq_eq_false_iff_ne,fun a b=>rfl,fun a b=>bne_iff_ne,fun a b=>bne_eq_false_iff_eq,fun b=>Bool.not_eq_true b,fun a b=>Iff.rfl,fun a b=>Iff.rfl,fun a b=>Iff.rfl,fun a b=>Iff.rfl⟩
theorem sl3:(∀(p:Prop) [Decidable p],(decide p=true)=p)∧(∀(p:Prop) [Decidable p],(decide p=false)↔¬p)∧(∀{α:Type} [BEq α] [LawfulBEq α] (a b:α),(a==b)=true↔a=b)∧(∀{α:Type} [BEq α] [LawfulBEq α] (a b:α),(a==b)=false↔a≠b)∧(∀{α:Type} (a b:α),(a≠b)=¬(a=b)):=⟨fun p _=>decide_eq_true_eq,fun p _=>decide_eq_false_iff_not,fun a b=>beq_iff_eq,fun a b=>beq_eq_false_iff_ne,fun a b=>rfl⟩
theorem nd0 {P:Prop} (h:P:=by first|exact nbz rfl|decide|decide):P:=h
theorem nd1 {P:Prop} (h:P:=by first|exact nbz rfl|(show indep _ _=true;kernel_rfl)|decide|exact⟨by decide,by decide⟩|exact⟨nbz rfl,allOne_of rfl⟩):P:=h
theorem nd2 {P:Prop} (h:P:=by first|exact nbz rfl|(show indep _ _=true;kernel_rfl)|decide):P:=h
theorem nd3 {P:Prop} (h:P:=by first|exact nbz rfl|(show indep _ _=true;kernel_rfl)|decide|exact⟨by decide,by decide⟩|exact⟨nbz rfl,allOne_of rfl⟩|exact allOne_of rfl|exact⟨by omega,by omega⟩):P:=h
theorem nd4 {P:Prop} (h:P:=by first|exact nbz rfl|(show indep _ _=true;kernel_rfl)|decide|exact⟨by decide,by decide⟩|exact⟨nbz rfl,allOne_of rfl⟩|exact⟨rfl,rfl⟩):P:=h
theorem nd5 {P:Prop} (h:P:=by first|exact nbz rfl|decide|(show indep _ _=true;kernel_rfl)):P:=h
theorem nd6 {P:Prop} (h:P:=by first|exact nbz rfl|decide|decide|(show indep _ _=true;kernel_rfl)):P:=h
theorem nd7 {P:Prop} (h:P:=by first|exact nbz rfl|decide|exact⟨by decide,by decide⟩|exact⟨nbz rfl,allOne_of rfl⟩|(show indep _ _=true;kernel_rfl)):P:=h
theorem nd8 {P:Prop} (h:P:=by first|exact nbz rfl|(show indep _ _=true;kernel_rfl)|decide|exact of_decide_eq_true rfl):P:=h
theorem nd9 {P:Prop} (h:P:=by first|exact nbz rfl|(show indep _ _=true;kernel_rfl)|decide|exact⟨by decide,by decide⟩|exact⟨nbz rfl,allOne_of rfl⟩|exact⟨by omega,by omega⟩|exact⟨rfl,rfl⟩):P:=h
theorem nd10 {P:Prop} (h:P:=by first|exact nbz rfl|(show indep _ _=true;kernel_rfl)|decide):P:=h
theorem nd11 {P:Prop} (h:P:=by first|exact nbz rfl|(show indep _ _=true;kernel_rfl)|decide|exact⟨by decide,by decide⟩):P:=h
theorem nd12 {P:Prop} (h:P:=by first|exact nbz rfl|(show indep _ _=true;kernel_rfl)|decide|exact⟨by decide,by decide⟩|exact⟨nbz rfl,allOne_of rfl⟩|exact allOne_of rfl|exact⟨rfl,rfl⟩):P:=h
theorem kb0 {P:Prop} (h:P:=by
 repeat' (conv=>whnf);first
  | (refine bcase_of (fun hr=>?_) (fun hr=>?_)<;>(try simp only[sl1] at hr)<;>try(exfalso;first|omega|exact hr rfl|(simp at hr;done)|(simp at hr;omega)))
  | (apply And.intro;· first|exact nd3)
  | (apply Exists.intro;apply And.intro;· first|exact rfl)
  | fail
 all_goals (conv=>whnf)
 all_goals rfl):P:=h
theorem kb1 {P:Prop} (h:P:=by
 repeat' (conv=>whnf);first
  | (refine bcase_of (fun hr=>?_) (fun hr=>?_)<;>(try simp only[sl1] at hr)<;>try(exfalso;first|omega|exact hr rfl|(simp at hr;done)|(simp at hr;omega)))
  | (apply And.intro;· first|exact nd3|exact⟨by omega,by rw[lP];omega⟩)
  | (apply Exists.intro;apply And.intro;· first|exact rfl|exact gi)
  | rw[hm]
  | rw[hw]
  | fail
 all_goals (conv=>whnf)
 all_goals rfl):P:=h
theorem kb2 {P:Prop} (h:P:=by
 repeat' (conv=>whnf);first
  | (refine bcase_of (fun hr=>?_) (fun hr=>?_)<;>(try simp only[sl1] at hr)<;>try(exfalso;first|omega|exact hr rfl|(simp at hr;done)|(simp at hr;omega)))
  | (apply And.intro;· first|exact nd3|exact⟨by omega,by rw[lP];omega⟩)
  | (apply Exists.intro;apply And.intro;· first|exact rfl|exact gi|exact gj)
  | rw[hm]
  | rw[hw]
  | rw[hwj]
  | fail
 all_goals (conv=>whnf)
 all_goals rfl):P:=h
theorem kb3 {P:Prop} (h:P:=by
 repeat' (conv=>whnf);first
  | (refine bcase_of (fun hr=>?_) (fun hr=>?_)<;>(try simp only[sl1] at hr)<;>try(exfalso;first|omega|exact hr rfl|(simp at hr;done)|(simp at hr;omega)))
  | (apply And.intro;· first|exact nd3|exact pP)
  | (apply Exists.intro;apply And.intro;· first|exact rfl|exact c1)
  | fail
 all_goals (conv=>whnf)
 all_goals rfl):P:=h
theorem kb4 {P:Prop} (h:P:=by
 repeat' (conv=>whnf);first
  | (refine bcase_of (fun hr=>?_) (fun hr=>?_)<;>(try simp only[sl2] at hr)<;>try(exfalso;first|omega|exact hr rfl|(simp at hr;done)|(simp at hr;omega)))
  | (apply And.intro;· first|exact nd3)
  | (apply Exists.intro;apply And.intro;· first|exact rfl)
  | fail
 all_goals (conv=>whnf)
 all_goals rfl):P:=h
theorem kb5 {P:Prop} (h:P:=by
 repeat' (conv=>whnf);first
  | (refine bcase_of (fun hr=>?_) (fun hr=>?_)<;>(try simp only[smag_cells,sl2] at hr)<;>try(exfalso;first|omega|exact hr rfl|(simp at hr;done)|(simp at hr;omega)))
  | (apply And.intro;· first|exact nd3|exact pP|exact pQ)
  | (apply Exists.intro;apply And.intro;· first|exact rfl|exact cM)
  | fail
 all_goals (conv=>whnf)
 all_goals rfl):P:=h
theorem kb6 {P:Prop} (h:P:=by
 repeat' (conv=>whnf);first
  | (refine bcase_of (fun hr=>?_) (fun hr=>?_)<;>(try simp only[smag_cells,sl2] at hr)<;>try(exfalso;first|omega|exact hr rfl|(simp at hr;done)|(simp at hr;omega)))
  | (apply And.intro;· first|exact nd3|exact pP|exact pQ)
  | (apply Exists.intro;apply And.intro;· first|exact rfl|exact cM|exact cS0|exact cS1|exact cK0|exact cK1)
  | fail
 all_goals (conv=>whnf)
 all_goals first|rfl|(exfalso;omega)):P:=h
theorem kb7 {P:Prop} (h:P:=by
 repeat' (conv=>whnf);first
  | (refine bcase_of (fun hr=>?_) (fun hr=>?_)<;>(try simp only[smag_cells,sl2] at hr)<;>try(exfalso;first|omega|exact hr rfl|(simp at hr;done)|(simp at hr;omega)))
  | (apply And.intro;· first|exact nd3|exact pP|exact pQ)
  | (apply Exists.intro;apply And.intro;· first|exact rfl|exact cG0)
  | fail
 all_goals (conv=>whnf)
 all_goals first|rfl|(exfalso;omega)):P:=h
theorem kb8 {P:Prop} (h:P:=by
 repeat' (conv=>whnf);first
  | (refine bcase_of (fun hr=>?_) (fun hr=>?_)<;>(try simp only[smag_cells,sl2] at hr)<;>try(exfalso;first|omega|exact hr rfl|(simp at hr;done)|(simp at hr;omega)))
  | (apply And.intro;· first|exact nd3|exact pP|exact pQ)
  | (apply Exists.intro;apply And.intro;· first|exact rfl|exact cG0|exact cK0|exact cW0|exact cO0)
  | fail
 all_goals (conv=>whnf)
 all_goals first|rfl|(exfalso;omega)):P:=h
theorem kb9 {P:Prop} (h:P:=by
 repeat' (conv=>whnf);first
  | (refine bcase_of (fun hr=>?_) (fun hr=>?_)<;>(try simp only[smag_cells,sl2] at hr)<;>try(exfalso;first|omega|exact hr rfl|(simp at hr;done)|(simp at hr;omega)))
  | (apply And.intro;· first|exact nd3|exact pP|exact pQ)
  | (apply Exists.intro;apply And.intro;· first|exact rfl|exact cG0|exact cK0|exact cW0|exact cO0|exact cG1|exact cK1|exact cW1|exact cO1)
  | fail
 all_goals (conv=>whnf)
 all_goals first|rfl|(exfalso;omega)):P:=h
theorem kb10 {P:Prop} (h:P:=by
 repeat' (conv=>whnf);first
  | (refine bcase_of (fun hr=>?_) (fun hr=>?_)<;>(try simp only[sl2] at hr)<;>try(exfalso;first|omega|exact hr rfl|(simp at hr;done)|(simp at hr;omega)|(simp[hne] at hr;done)|(simp at hr;exact hxy (Prod.ext hr.1 hr.2))|(simp at hr;exact h2 hr)|(simp_all;done)))
  | (apply And.intro;· first|exact nd3)
  | (apply Exists.intro;apply And.intro;· first|exact rfl)
  | fail
 all_goals (conv=>whnf)
 all_goals rfl):P:=h
theorem kb11 {P:Prop} (h:P:=by
 repeat' (conv=>whnf);first
  | (refine bcase_of (fun hr=>?_) (fun hr=>?_)<;>(try simp only[sl2] at hr)<;>try(exfalso;first|omega|exact hr rfl|(simp at hr;done)|(simp at hr;omega)))
  | (apply And.intro;· first|exact nd3|exact pP|exact pQ)
  | (apply Exists.intro;apply And.intro;· first|exact rfl|exact c)
  | fail
 all_goals (conv=>whnf)
 all_goals first|rfl|(subst hr;rfl)):P:=h
theorem kb12 {P:Prop} (h:P:=by
 repeat' (conv=>whnf);first
  | (refine bcase_of (fun hr=>?_) (fun hr=>?_)<;>(try simp only[sl2] at hr)<;>try(exfalso;first|omega|exact hr rfl|(simp at hr;done)|(simp_all;done)|(simp at hr;omega)))
  | (apply And.intro;· first|exact nd3|exact⟨by omega,by rw[lL];omega⟩|exact pp|exact pq)
  | (apply Exists.intro;apply And.intro;· first|exact rfl|exact cK|exact cI|exact cW|exact cY|exact gi)
  | rw[hw]
  | fail
 all_goals (conv=>whnf)
 all_goals rfl):P:=h
theorem kb13 {P:Prop} (h:P:=by
 repeat' (conv=>whnf);first
  | (apply And.intro;· first|exact nd2|exact pL)
  | (apply Exists.intro;apply And.intro;· first|exact rfl)
  | fail
 all_goals try rw[hw]
 all_goals exact ih ⟨i+1,e.v,true⟩ ⟨hgo,hz1,fun _=>⟨hz2,e,hx,rfl⟩,fun h=>absurd h (Nat.succ_ne_zero _),hg2⟩ (by show l.length-(i+1)<l.length-i;omega)):P:=h
theorem kb14 {P:Prop} (h:P:=by
 repeat' (conv=>whnf);first
  | (apply And.intro;· first|exact nd2|exact pL)
  | (apply Exists.intro;apply And.intro;· first|exact rfl)
  | fail
 all_goals try rw[hw]
 all_goals exact ih ⟨i+1,e.v,false⟩ ⟨hgo,hz1,fun _=>⟨hz2,e,hx,rfl⟩,fun h=>absurd h (Nat.succ_ne_zero _),hg2⟩ (by show l.length-(i+1)<l.length-i;omega)):P:=h
theorem kb15 {P:Prop} (h:P:=by
 repeat' (conv=>whnf);first
  | (refine bcase_of (fun hr=>?_) (fun hr=>?_)<;>(try simp only[sl2] at hr)<;>try(exfalso;first|omega|exact hr rfl|(simp at hr;done)|(simp_all;done)|(simp at hr;omega)))
  | (apply And.intro;· first|exact nd3|exact⟨by omega,by rw[lL];omega⟩|exact pp|exact pq)
  | (apply Exists.intro;apply And.intro;· first|exact rfl|exact cK|exact cI|exact cW|exact cY|exact gi|exact gj)
  | rw[hw]
  | rw[hwj]
  | fail
 all_goals (conv=>whnf)
 all_goals rfl):P:=h
theorem kb16 {P:Prop} (h:P:=by
 repeat' (conv=>whnf);first
  | (refine bcase_of (fun hr=>?_) (fun hr=>?_)<;>(try simp only[sl2] at hr)<;>try(exfalso;first|omega|exact hr rfl|(simp at hr;done)|(simp at hr;omega)))
  | (apply And.intro;· first|exact nd3|exact⟨by omega,by rw[lL];omega⟩|exact pL|exact pp|exact pq)
  | (apply Exists.intro;apply And.intro;· first|exact rfl|exact cG)
  | fail
 all_goals (conv=>whnf)
 all_goals rfl):P:=h
theorem kb17 {P:Prop} (h:P:=by
 repeat' (conv=>whnf);first
  | (refine bcase_of (fun hr=>?_) (fun hr=>?_)<;>(try simp only[sl2] at hr)<;>try(exfalso;first|omega|exact hr rfl|(simp at hr;done)|(simp at hr;omega)))
  | (apply And.intro;· first|exact nd3|exact⟨by omega,by rw[lL];omega⟩|exact pL|exact pp|exact pq|exact pcp|exact pcq|exact pO|exact⟨pO,trivial⟩)
  | (apply Exists.intro;apply And.intro;· first|exact rfl|exact cG)
  | fail
 all_goals (conv=>whnf)
 all_goals rfl):P:=h
theorem kb18 {P:Prop} (h:P:=by
 repeat' (conv=>whnf);first
  | (refine bcase_of (fun hr=>?_) (fun hr=>?_)<;>(try simp only[sl2] at hr)<;>try(exfalso;first|omega|exact hr rfl|(simp at hr;done)|(simp at hr;omega)))
  | (apply And.intro;· first|exact nd3|exact⟨by omega,by rw[lL];omega⟩|exact pL|exact pp|exact pq|exact pcp|exact pcq|exact pO|exact⟨pO,trivial⟩|exact pPr)
  | (apply Exists.intro;apply And.intro;· first|exact rfl|exact cG|exact cY|exact cCell|exact cPr)
  | rw[hw0]
  | rw[hwk]
  | (apply Exists.intro;apply Exists.intro;apply Exists.intro;apply And.intro;· exact cCopy _)
  | (apply Exists.intro;apply And.intro;· exact cPut _)
  | fail
 all_goals (conv=>whnf)
 all_goals rfl):P:=h
theorem kb19 {P:Prop} (h:P:=by
 repeat' (conv=>whnf);first
  | (refine bcase_of (fun hr=>?_) (fun hr=>?_)<;>(try simp only[sl2] at hr)<;>try(exfalso;first|omega|exact hr rfl|(simp at hr;done)|(simp at hr;omega)))
  | (apply And.intro;· first|exact nd3|exact⟨by omega,by rw[lL];omega⟩|exact pL|exact pp|exact pq|exact pcp|exact pcq|exact pO|exact⟨pO,trivial⟩|exact pPr)
  | (apply Exists.intro;apply And.intro;· first|exact rfl|exact cG|exact cY|exact cCell|exact cPr|exact gi)
  | rw[hw0]
  | rw[hwk]
  | (apply Exists.intro;apply Exists.intro;apply Exists.intro;apply And.intro;· exact cCopy _)
  | (apply Exists.intro;apply And.intro;· exact cPut _)
  | fail
 all_goals (conv=>whnf)
 all_goals rfl):P:=h
theorem kb20 {P:Prop} (h:P:=by
 repeat' (conv=>whnf);first
  | (refine bcase_of (fun hr=>?_) (fun hr=>?_)<;>(try simp only[sl2] at hr)<;>try(exfalso;first|omega|exact hr rfl|(simp at hr;done)|(simp at hr;omega)))
  | (apply And.intro;· first|exact nd3|exact⟨by omega,by rw[lL];omega⟩|exact pL|exact pp|exact pq|exact pcp|exact pcq|exact pO|exact⟨pO,trivial⟩)
  | (apply Exists.intro;apply And.intro;· first|exact rfl|exact cG|exact cY|exact gi)
  | rw[hw0]
  | fail
 all_goals (conv=>whnf)
 all_goals rfl):P:=h
theorem kb21 {P:Prop} (h:P:=by
 repeat' (conv=>whnf);first
  | (refine bcase_of (fun hr=>?_) (fun hr=>?_)<;>try(exfalso;simp at hr;done))
  | (apply And.intro;· first|exact nd4|exact pure_E _)
  | (apply Exists.intro;apply And.intro;· first|exact rfl|exact c3|exact pages_get hg|exact c2)
  | (apply Exists.intro;apply Exists.intro;apply Exists.intro;apply And.intro;· first|(apply ATriple.callN (at_some cap taken low ps hl i h0 hg hp ht)<;>rfl))
  | fail
 all_goals refine⟨[.shut (0,0) (slD (cap) (taken) (low) (ps))],?_⟩
 all_goals (conv=>whnf)
 all_goals refine⟨shut_sl (18,1) (cap) (taken) (low) _ (rfl) (by simp),?_⟩
 all_goals (conv=>whnf)
 all_goals exact⟨rfl,rfl⟩):P:=h
theorem kb22 {P:Prop} (h:P:=by
 repeat' (conv=>whnf);first
  | (apply And.intro;· first|exact nd7)
  | (apply Exists.intro;apply And.intro;· first|exact rfl|exact c1|exact c2)
  | fail
 all_goals (conv=>whnf)
 all_goals rfl):P:=h
theorem kb23 {P:Prop} (h:P:=by
 repeat' (conv=>whnf);first
  | (refine bcase_of (fun hr=>?_) (fun hr=>?_)<;>(try simp at hr)<;>try omega)
  | (apply And.intro;· first|exact nd1)
  | (apply Exists.intro;apply And.intro;· first|exact rfl|exact c)
  | fail
 all_goals (conv=>whnf)
 all_goals rfl):P:=h
theorem kb24 {P:Prop} (h:P:=by
 repeat' (conv=>whnf);first
  | (refine bcase_of (fun hr=>?_) (fun hr=>?_)<;>(try simp at hr)<;>try(exfalso;omega))
  | (apply And.intro;· first|exact nd4)
  | (apply Exists.intro;apply And.intro;· first|exact rfl)
  | (apply Exists.intro;apply Exists.intro;apply Exists.intro;apply And.intro;· first|(refine ATriple.callN (cS) ?_ ?_ ?_<;>rfl))
  | fail
 all_goals (conv=>whnf)
 all_goals refine⟨[],?_⟩
 all_goals (conv=>whnf)
 all_goals exact⟨rfl,rfl⟩):P:=h
theorem kb25 {P:Prop} (h:P:=by
 repeat' (conv=>whnf);first
  | (refine bcase_of (fun hr=>?_) (fun hr=>?_)<;>(try simp only[sl3] at hr)<;>try(exfalso;first|omega|(simp at hr;omega)|(simp at hr;done)))
  | (apply And.intro;· first|exact nd4|exact⟨shut_tr _ _ L F root h n rfl rfl rfl rfl,rfl,rfl⟩)
  | (apply Exists.intro;apply And.intro;· first|exact rfl)
  | (apply Exists.intro;apply Exists.intro;apply Exists.intro;apply And.intro;· first|(refine ATriple.callC (cN) ?_ ?_<;>(intro d;rfl)))
  | fail
 all_goals (conv=>whnf)
 all_goals refine⟨[.shut (0,0) (trD L F root h n)],?_⟩
 all_goals (conv=>whnf)
 all_goals refine⟨shut_tr _ _ L F root h n rfl rfl rfl rfl,?_⟩
 all_goals (conv=>whnf)
 all_goals exact⟨rfl,rfl⟩):P:=h
end Go.Proofs.YtbppemcdphgknaaDoor
