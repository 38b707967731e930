/- A part of the proofs over the seat YtbppemcdphgknaaDoor. -/
import Derived.Test.YtbppemcdphgknaaDoorZFtB
import Derived.Test.YtbppemcdphgknaaDoorCards
set_option linter.unusedVariables false
set_option linter.unusedSimpArgs false
namespace Go.Proofs.YtbppemcdphgknaaDoor
open Go
theorem tableRoom_card_holds:Rows.TableRoomCardSaid:=
 Claim7.holds_tied_plain_at .later [] [.data] true (true,"f349746af49711caa4bdd05c55cd4be819e63216c40c5c8a6c9d61fa08a824be") false
  tableRoom_holds (fun _ h=>by cases h) (by kernel_rfl) (fun _ h=>by cases h) tableRoom_row_tie rfl ⟨rfl,rfl⟩ (by kernel_rfl) rfl
  (fun f fn hf hfn=>by
   obtain rfl:f=10:=Option.some.inj ((show Tryd.prog.funcNamed "cuboid/cuboidlaw18.TableRoom" = some 10 by kernel_rfl).symm.trans hf) |>.symm
   obtain rfl:fn=Tryd.f10:=(Option.some.inj (Tryd.func10.symm.trans hfn)).symm
   exact⟨by kernel_rfl,fun j t ht=>by
    rw[Tryd.params10] at ht
    have hm:t∈[5,5,2]:=by simpa using Array.mem_of_getElem? ht
    have hall:([5,5,2].all fun u=>!Tryd.prog.wantsStandIn u)=true:=by kernel_rfl
    exact(show Tryd.prog.wantsStandIn t=false by simpa using List.all_eq_true.1 hall t hm)⟩)
  (by kernel_rfl)
#print axioms tableRoom_card_holds
end Go.Proofs.YtbppemcdphgknaaDoor
