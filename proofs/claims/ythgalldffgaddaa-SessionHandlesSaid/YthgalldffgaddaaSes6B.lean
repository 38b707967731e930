/- SessionHandles: the statement, proved; no conditions beyond its own. -/
import Derived.Test.YthgalldffgaddaaSesK
import Derived.Test.YthgalldffgaddaaSesU
set_option linter.unusedVariables false
set_option linter.unusedSimpArgs false
namespace Go.Proofs.Ythgalldffgaddaa
open Go Go.Vm
set_option maxRecDepth 100000
set_option linter.unusedSimpArgs false
theorem sessionHandles_holds : Rows.SessionHandlesSaid :=
  OpenClaim.holds_of_wide 6 Try.f6 rfl rfl rfl rfl rfl rfl rfl ⟨rfl, rfl, rfl, rfl, rfl⟩ rfl rfl rfl rfl rfl (by kernel_rfl) Try.func6 (by kernel_rfl)
    (of_decide_eq_true (by kernel_rfl)) (by unfold Func.isWrapper; first | (rw [if_pos (by decide +kernel)]; kernel_rfl) | (rw [if_neg (by decide +kernel)]; exact ⟨rfl, rfl⟩))
    (fun os started H enc _ => law_returns0 (C := Try.checked) (s := Rows.sessionHandlesSpec) (fn := Try.f6) (gv := gv) (ss := [.slice (.int .u8)]) (tb := 4) own started (by kernel_rfl) Try.func6 (by kernel_rfl) (by kernel_rfl) laidOut
      (ChangeSpec.witness6 (enc := enc) (C := Try.checked) false ⟨#[], #[.slice none 0 0], []⟩ 8 (by kernel_rfl) (by kernel_rfl) (by kernel_rfl) (by kernel_rfl))
      (by rw [Try.params6]; exact ⟨.slice Try.underlying50 (.int Try.underlying5) (by kernel_rfl) (by decide), trivial⟩) (by kernel_rfl) Try.underlying4 rfl rfl
      (fun ds hds => by rw [Try.params6] at hds; match ds, hds with | [d0], _ => rfl)
      (fun W => gOk _)
      (fun y hy => handles_ok y.1 fun x hx => wf8 (hy.1.2 x hx)))
#print axioms sessionHandles_holds
end Go.Proofs.Ythgalldffgaddaa
