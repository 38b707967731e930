/- SessionTime: the statement, proved; no conditions beyond its own. -/
import Derived.Test.YthgalldffgaddaaSesK
import Derived.Test.YthgalldffgaddaaSesD
set_option linter.unusedVariables false
set_option linter.unusedSimpArgs false
namespace Go.Proofs.Ythgalldffgaddaa
open Go Go.Vm
set_option maxRecDepth 100000
set_option linter.unusedSimpArgs false
theorem sessionTime_holds : Rows.SessionTimeSaid :=
  OpenClaim.holds_of_wide 7 Try.f7 rfl rfl rfl rfl rfl rfl rfl ⟨rfl, rfl, rfl, rfl, rfl⟩ rfl rfl rfl rfl rfl (by kernel_rfl) Try.func7 (by kernel_rfl)
    (of_decide_eq_true (by kernel_rfl)) (by unfold Func.isWrapper; first | (rw [if_pos (by decide +kernel)]; kernel_rfl) | (rw [if_neg (by decide +kernel)]; exact ⟨rfl, rfl⟩))
    (fun os started H enc _ => law_returns0 (C := Try.checked) (s := Rows.sessionTimeSpec) (fn := Try.f7) (gv := gv) (ss := [.int .i64, .int .i64]) (tb := 4) own started (by kernel_rfl) Try.func7 (by kernel_rfl) (by kernel_rfl) laidOut
      (ChangeSpec.witness6 (enc := enc) (C := Try.checked) false ⟨#[], #[.int .i64 0, .int .i64 0], []⟩ 8 (by kernel_rfl) (by kernel_rfl) (by kernel_rfl) (by kernel_rfl))
      (by rw [Try.params7]; exact ⟨.int Try.underlying3, .int Try.underlying3, trivial⟩) (by kernel_rfl) Try.underlying4 rfl rfl
      (fun ds hds => by rw [Try.params7] at hds; match ds, hds with | [d0, d1], _ => rfl)
      (fun W => gOk _)
      (fun y _ => time_ok y.1 y.2.1))
#print axioms sessionTime_holds
end Go.Proofs.Ythgalldffgaddaa
