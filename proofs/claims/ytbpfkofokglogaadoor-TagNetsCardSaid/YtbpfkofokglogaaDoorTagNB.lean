/- TagNets: what the law's function gives, from its contract, and the card. -/
import Derived.Test.YtbpfkofokglogaaDoorTagE
import Derived.Test.YtbpfkofokglogaaDoorTagN
set_option linter.unusedVariables false
set_option linter.unusedSimpArgs false
namespace Go.Proofs.YtbpfkofokglogaaDoor
open Go Go.Vm
set_option maxRecDepth 100000
set_option linter.unusedSimpArgs false
theorem tagNets_holds : Rows.TagNetsSaid :=
  OpenClaim.holds_of_wide 4 Tryd.f4 rfl rfl rfl rfl rfl rfl rfl ⟨rfl, rfl, rfl, rfl, rfl⟩ rfl rfl rfl rfl rfl (by kernel_rfl) Tryd.func4 (by kernel_rfl)
    (of_decide_eq_true (by kernel_rfl)) (by unfold Func.isWrapper; first | (rw [if_pos (by decide +kernel)]; kernel_rfl) | (rw [if_neg (by decide +kernel)]; exact ⟨rfl, rfl⟩))
    (fun os started H enc _ => law_returns (C := Tryd.checked) (s := Rows.tagNetsSpec) (fn := Tryd.f4) (gv := gv) (ss := [.slice (.int .i64)]) (tb := 4) own started (by kernel_rfl) Tryd.func4 laidOut
      (ChangeSpec.witness_shaped (enc := enc) (C := Tryd.checked) (os := os) (X := fun w _ => laidMetH Tryd.prog laidRows w) false (World.doorLaid Tryd.prog 400 os) #[.slice none 0 0] 8 rfl (World.shaped_of_RefB (by kernel_rfl) (by kernel_rfl)) (by kernel_rfl) (by kernel_rfl) (by kernel_rfl) (door_met os _))
      (by rw [Tryd.params4]; exact ⟨.slice Tryd.underlying23 (.int Tryd.underlying3) (by kernel_rfl) (by decide), trivial⟩) (by kernel_rfl) Tryd.underlying4 rfl rfl
      (fun ds hds => by rw [Tryd.params4] at hds; match ds, hds with | [d0], _ => rfl)
      (fun W h => globOk h)
      (fun y _ => ok4 y.1))
#print axioms tagNets_holds
end Go.Proofs.YtbpfkofokglogaaDoor
