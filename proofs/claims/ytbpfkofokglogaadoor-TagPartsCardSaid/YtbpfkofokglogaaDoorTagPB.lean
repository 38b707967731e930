/- TagParts: what the law's function gives, from its contract, and the card. -/
import Derived.Test.YtbpfkofokglogaaDoorTagE
import Derived.Test.YtbpfkofokglogaaDoorTagP
set_option linter.unusedVariables false
set_option linter.unusedSimpArgs false
namespace Go.Proofs.YtbpfkofokglogaaDoor
open Go Go.Vm
set_option maxRecDepth 100000
set_option linter.unusedSimpArgs false
theorem tagParts_holds : Rows.TagPartsSaid :=
  OpenClaim.holds_of_wide 6 Tryd.f6 rfl rfl rfl rfl rfl rfl rfl ⟨rfl, rfl, rfl, rfl, rfl⟩ rfl rfl rfl rfl rfl (by kernel_rfl) Tryd.func6 (by kernel_rfl)
    (of_decide_eq_true (by kernel_rfl)) (by unfold Func.isWrapper; first | (rw [if_pos (by decide +kernel)]; kernel_rfl) | (rw [if_neg (by decide +kernel)]; exact ⟨rfl, rfl⟩))
    (fun os started H enc _ => law_returns (C := Tryd.checked) (s := Rows.tagPartsSpec) (fn := Tryd.f6) (gv := gv) (ss := [.slice (.int .u8), .int .u8]) (tb := 4) own started (by kernel_rfl) Tryd.func6 laidOut
      (ChangeSpec.witness_shaped (enc := enc) (C := Tryd.checked) (os := os) (X := fun w _ => laidMetH Tryd.prog laidRows w) false (World.doorLaid Tryd.prog 400 os) #[.slice none 0 0, .int .u8 0] 8 rfl (World.shaped_of_RefB (by kernel_rfl) (by kernel_rfl)) (by kernel_rfl) (by kernel_rfl) (by kernel_rfl) (door_met os _))
      (by rw [Tryd.params6]; exact ⟨.slice Tryd.underlying39 (.int Tryd.underlying5) (by kernel_rfl) (by decide), .int Tryd.underlying5, trivial⟩) (by kernel_rfl) Tryd.underlying4 rfl rfl
      (fun ds hds => by rw [Tryd.params6] at hds; match ds, hds with | [d0, d1], _ => rfl)
      (fun W h => globOk h)
      (fun y hy => ok6 y.1 y.2.1 (fun x hx => u8_in (hy.1.2 x hx)) (u8_in hy.2.1)))
#print axioms tagParts_holds
end Go.Proofs.YtbpfkofokglogaaDoor
