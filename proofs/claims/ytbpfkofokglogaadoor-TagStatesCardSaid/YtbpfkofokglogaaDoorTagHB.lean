/- TagStates: what the law's function gives, from its contract, and the card. -/
import Derived.Test.YtbpfkofokglogaaDoorTagE
import Derived.Test.YtbpfkofokglogaaDoorTagH
set_option linter.unusedVariables false
set_option linter.unusedSimpArgs false
namespace Go.Proofs.YtbpfkofokglogaaDoor
open Go Go.Vm
set_option maxRecDepth 100000
set_option linter.unusedSimpArgs false
theorem tagStates_holds : Rows.TagStatesSaid :=
  OpenClaim.holds_of_wide 5 Tryd.f5 rfl rfl rfl rfl rfl rfl rfl ⟨rfl, rfl, rfl, rfl, rfl⟩ rfl rfl rfl rfl rfl (by kernel_rfl) Tryd.func5 (by kernel_rfl)
    (of_decide_eq_true (by kernel_rfl)) (by unfold Func.isWrapper; first | (rw [if_pos (by decide +kernel)]; kernel_rfl) | (rw [if_neg (by decide +kernel)]; exact ⟨rfl, rfl⟩))
    (fun os started H enc _ => law_returns (C := Tryd.checked) (s := Rows.tagStatesSpec) (fn := Tryd.f5) (gv := gv) (ss := [.slice .bool]) (tb := 4) own started (by kernel_rfl) Tryd.func5 laidOut
      (ChangeSpec.witness_shaped (enc := enc) (C := Tryd.checked) (os := os) (X := fun w _ => laidMetH Tryd.prog laidRows w) false (World.doorLaid Tryd.prog 400 os) #[.slice none 0 0] 8 rfl (World.shaped_of_RefB (by kernel_rfl) (by kernel_rfl)) (by kernel_rfl) (by kernel_rfl) (by kernel_rfl) (door_met os _))
      (by rw [Tryd.params5]; exact ⟨.slice Tryd.underlying37 (.bool Tryd.underlying4) (by kernel_rfl) (by decide), trivial⟩) (by kernel_rfl) Tryd.underlying4 rfl rfl
      (fun ds hds => by rw [Tryd.params5] at hds; match ds, hds with | [d0], _ => rfl)
      (fun W h => globOk h)
      (fun y _ => ok5 y.1))
#print axioms tagStates_holds
end Go.Proofs.YtbpfkofokglogaaDoor
