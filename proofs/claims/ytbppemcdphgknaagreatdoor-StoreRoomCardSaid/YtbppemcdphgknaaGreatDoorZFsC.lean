/- A part of the proofs over the seat YtbppemcdphgknaaGreatDoor. -/
import Derived.Test.YtbppemcdphgknaaGreatDoorZFsB
import Derived.Test.YtbppemcdphgknaaGreatDoorCards
set_option linter.unusedVariables false
set_option linter.unusedSimpArgs false
namespace Go.Proofs.YtbppemcdphgknaaGreatDoor
open Go
theorem storeRoom_card_holds:Rows.StoreRoomCardSaid:=
 Claim7.holds_tied_plain_at .later [] [.data] true (true,"0cff82aa649bd0a2cad8b283d4da36271c89055ab17fb1f4a763326f1b4d3164") false
  storeRoom_holds (fun _ h=>by cases h) (by kernel_rfl) (fun _ h=>by cases h) storeRoom_row_tie rfl ⟨rfl,rfl⟩ (by kernel_rfl) rfl
  (fun f fn hf hfn=>by
   obtain rfl:f=7:=Option.some.inj ((show Tryz.prog.funcNamed "cuboid/cuboidlaw19.StoreRoom" = some 7 by kernel_rfl).symm.trans hf) |>.symm
   obtain rfl:fn=Tryz.f7:=(Option.some.inj (Tryz.func7.symm.trans hfn)).symm
   exact⟨by kernel_rfl,fun j t ht=>by
    rw[Tryz.params7] at ht
    have hm:t∈[5,91,2]:=by simpa using Array.mem_of_getElem? ht
    have hall:([5,91,2].all fun u=>!Tryz.prog.wantsStandIn u)=true:=by kernel_rfl
    exact(show Tryz.prog.wantsStandIn t=false by simpa using List.all_eq_true.1 hall t hm)⟩)
  (by kernel_rfl)
#print axioms storeRoom_card_holds
end Go.Proofs.YtbppemcdphgknaaGreatDoor
