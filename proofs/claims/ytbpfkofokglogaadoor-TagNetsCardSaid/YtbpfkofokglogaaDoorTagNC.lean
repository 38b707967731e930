/- The statement of the card of TagNets: proved. No conditions beyond the statement's own. -/
import Derived.Test.YtbpfkofokglogaaDoorTagNB
import Derived.Test.YtbpfkofokglogaaDoorCards
set_option linter.unusedVariables false
set_option linter.unusedSimpArgs false
namespace Go.Proofs.YtbpfkofokglogaaDoor
open Go
theorem tagNets_card_holds : Rows.TagNetsCardSaid :=
  Claim7.holds_tied_plain_at .later [] [.data] true (true, "85862d36358868f0244e4265c4f4dc8618d5a48be1799c60066331ea2e434241") false
    tagNets_holds (fun _ h => by cases h) (by kernel_rfl) (fun _ h => by cases h) tagNets_row_tie rfl ⟨rfl, rfl⟩ (by kernel_rfl) rfl
    (fun f fn hf hfn => by
      obtain rfl : f = 4 := Option.some.inj ((show Tryd.prog.funcNamed "cuboid/cuboidlaw12.TagNets" = some 4 by kernel_rfl).symm.trans hf) |>.symm
      obtain rfl : fn = Tryd.f4 := (Option.some.inj (Tryd.func4.symm.trans hfn)).symm
      exact ⟨by kernel_rfl, fun j t ht => by
        rw [Tryd.params4] at ht
        have hm : t ∈ [23] := by simpa using Array.mem_of_getElem? ht
        have hall : ([23].all fun u => !Tryd.prog.wantsStandIn u) = true := by kernel_rfl
        exact (show Tryd.prog.wantsStandIn t = false by simpa using List.all_eq_true.1 hall t hm)⟩)
    (by kernel_rfl)
#print axioms tagNets_card_holds
end Go.Proofs.YtbpfkofokglogaaDoor
