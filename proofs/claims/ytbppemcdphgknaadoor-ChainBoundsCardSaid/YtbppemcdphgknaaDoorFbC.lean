/- The statement of the card of ChainBounds: proved. No conditions beyond the statement's own. -/
import Derived.Test.YtbppemcdphgknaaDoorFbB
import Derived.Test.YtbppemcdphgknaaDoorCards
set_option linter.unusedVariables false
set_option linter.unusedSimpArgs false
namespace Go.Proofs.YtbppemcdphgknaaDoor
open Go
theorem chainBounds_card_holds : Rows.ChainBoundsCardSaid :=
  Claim7.holds_tied_plain_at .later [] [.data] true (true, "f349746af49711caa4bdd05c55cd4be819e63216c40c5c8a6c9d61fa08a824be") false
    chainBounds_holds (fun _ h => by cases h) (by kernel_rfl) (fun _ h => by cases h) chainBounds_row_tie rfl ⟨rfl, rfl⟩ (by kernel_rfl) rfl
    (fun f fn hf hfn => by
      obtain rfl : f = 8 := Option.some.inj ((show Tryd.prog.funcNamed "cuboid/cuboidlaw13.ChainBounds" = some 8 by kernel_rfl).symm.trans hf) |>.symm
      obtain rfl : fn = Tryd.f8 := (Option.some.inj (Tryd.func8.symm.trans hfn)).symm
      exact ⟨by kernel_rfl, fun j t ht => by
        rw [Tryd.params8] at ht
        have hm : t ∈ [3, 5, 60] := by simpa using Array.mem_of_getElem? ht
        have hall : ([3, 5, 60].all fun u => !Tryd.prog.wantsStandIn u) = true := by kernel_rfl
        exact (show Tryd.prog.wantsStandIn t = false by simpa using List.all_eq_true.1 hall t hm)⟩)
    (by kernel_rfl)
#print axioms chainBounds_card_holds
end Go.Proofs.YtbppemcdphgknaaDoor
