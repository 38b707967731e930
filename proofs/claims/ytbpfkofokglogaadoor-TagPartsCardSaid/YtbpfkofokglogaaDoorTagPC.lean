/- The statement of the card of TagParts: proved. No conditions beyond the statement's own. -/
import Derived.Test.YtbpfkofokglogaaDoorTagPB
import Derived.Test.YtbpfkofokglogaaDoorCards
set_option linter.unusedVariables false
set_option linter.unusedSimpArgs false
namespace Go.Proofs.YtbpfkofokglogaaDoor
open Go
theorem tagParts_card_holds : Rows.TagPartsCardSaid :=
  Claim7.holds_tied_plain_at .later [] [.data] true (true, "85862d36358868f0244e4265c4f4dc8618d5a48be1799c60066331ea2e434241") false
    tagParts_holds (fun _ h => by cases h) (by kernel_rfl) (fun _ h => by cases h) tagParts_row_tie rfl ⟨rfl, rfl⟩ (by kernel_rfl) rfl
    (fun f fn hf hfn => by
      obtain rfl : f = 6 := Option.some.inj ((show Tryd.prog.funcNamed "cuboid/cuboidlaw12.TagParts" = some 6 by kernel_rfl).symm.trans hf) |>.symm
      obtain rfl : fn = Tryd.f6 := (Option.some.inj (Tryd.func6.symm.trans hfn)).symm
      exact ⟨by kernel_rfl, fun j t ht => by
        rw [Tryd.params6] at ht
        have hm : t ∈ [39, 5] := by simpa using Array.mem_of_getElem? ht
        have hall : ([39, 5].all fun u => !Tryd.prog.wantsStandIn u) = true := by kernel_rfl
        exact (show Tryd.prog.wantsStandIn t = false by simpa using List.all_eq_true.1 hall t hm)⟩)
    (by kernel_rfl)
#print axioms tagParts_card_holds
end Go.Proofs.YtbpfkofokglogaaDoor
