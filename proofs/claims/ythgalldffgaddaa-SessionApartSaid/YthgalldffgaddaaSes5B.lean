/- SessionApart: the statement, proved; no conditions beyond its own. -/
import Derived.Test.YthgalldffgaddaaSesK
import Derived.Test.YthgalldffgaddaaSesJ
set_option linter.unusedVariables false
set_option linter.unusedSimpArgs false
namespace Go.Proofs.Ythgalldffgaddaa
open Go Go.Vm
set_option maxRecDepth 100000
set_option linter.unusedSimpArgs false
theorem sessionApart_holds : Rows.SessionApartSaid :=
  OpenClaim.holds_of_wide 5 Try.f5 rfl rfl rfl rfl rfl rfl rfl ⟨rfl, rfl, rfl, rfl, rfl⟩ rfl rfl rfl rfl rfl (by kernel_rfl) Try.func5 (by kernel_rfl)
    (of_decide_eq_true (by kernel_rfl)) (by unfold Func.isWrapper; first | (rw [if_pos (by decide +kernel)]; kernel_rfl) | (rw [if_neg (by decide +kernel)]; exact ⟨rfl, rfl⟩))
    (fun os started H enc _ => law_returns0 (C := Try.checked) (s := Rows.sessionApartSpec) (fn := Try.f5) (gv := gv) (ss := [.slice (.pair (.int .u8) (.pair (.int .i64) (.pair (.pair (.int .i64) (.pair (.int .i64) .unit)) .unit))), .int .u8, .int .u8]) (tb := 4) own started (by kernel_rfl) Try.func5 (by kernel_rfl) (by kernel_rfl) laidOut
      (ChangeSpec.witness6 (enc := enc) (C := Try.checked) false ⟨#[], #[.slice none 0 0, .int .u8 0, .int .u8 0], []⟩ 8 (by kernel_rfl) (by kernel_rfl) (by kernel_rfl) (by kernel_rfl))
      (by rw [Try.params5]; exact ⟨.slice Try.underlying22 (.struct3 Try.underlying37 (.int Try.underlying5) (.int Try.underlying3) (.struct2 Try.underlying35 (.int Try.underlying3) (.int Try.underlying3) (by kernel_rfl) (by kernel_rfl) (by kernel_rfl) (by kernel_rfl) (by kernel_rfl)) (by kernel_rfl) (by kernel_rfl) (by kernel_rfl) (by kernel_rfl) (by kernel_rfl) (by kernel_rfl) (by kernel_rfl)) (by kernel_rfl) (by decide), .int Try.underlying5, .int Try.underlying5, trivial⟩) (by kernel_rfl) Try.underlying4 rfl rfl
      (fun ds hds => by rw [Try.params5] at hds; match ds, hds with | [d0, d1, d2], _ => rfl)
      (fun W => gOk _)
      (fun y hy => by have h := apart_ok (y.1.map fun z => (z.1, z.2.1, z.2.2.1.1, z.2.2.1.2.1)) y.2.1 y.2.2.1 (wf8 hy.2.1) (wf8 hy.2.2.1); rw [acts_arg] at h; exact h))
#print axioms sessionApart_holds
end Go.Proofs.Ythgalldffgaddaa
