/- SessionOver: the statement, proved; no conditions beyond its own. -/
import Derived.Test.YthgalldffgaddaaSesK
import Derived.Test.YthgalldffgaddaaSesE
set_option linter.unusedVariables false
set_option linter.unusedSimpArgs false
namespace Go.Proofs.Ythgalldffgaddaa
open Go Go.Vm
set_option maxRecDepth 100000
set_option linter.unusedSimpArgs false
theorem sessionOver_holds : Rows.SessionOverSaid :=
  OpenClaim.holds_of_wide 4 Try.f4 rfl rfl rfl rfl rfl rfl rfl ⟨rfl, rfl, rfl, rfl, rfl⟩ rfl rfl rfl rfl rfl (by kernel_rfl) Try.func4 (by kernel_rfl)
    (of_decide_eq_true (by kernel_rfl)) (by unfold Func.isWrapper; first | (rw [if_pos (by decide +kernel)]; kernel_rfl) | (rw [if_neg (by decide +kernel)]; exact ⟨rfl, rfl⟩))
    (fun os started H enc _ => law_returns0 (C := Try.checked) (s := Rows.sessionOverSpec) (fn := Try.f4) (gv := gv) (ss := [.pair (.int .u8) (.pair (.int .u8) (.pair (.int .u8) (.pair (.int .u8) (.pair (.slice (.int .u8)) .unit)))), .int .u8]) (tb := 4) own started (by kernel_rfl) Try.func4 (by kernel_rfl) (by kernel_rfl) laidOut
      (ChangeSpec.witness6 (enc := enc) (C := Try.checked) false ⟨#[], #[.agg #[.int .u8 0, .int .u8 0, .int .u8 0, .int .u8 0, .slice none 0 0], .int .u8 0], []⟩ 8 (by kernel_rfl) (by kernel_rfl) (by kernel_rfl) (by kernel_rfl))
      (by rw [Try.params4]; exact ⟨.struct5 Try.underlying52 (.int Try.underlying5) (.int Try.underlying5) (.int Try.underlying5) (.int Try.underlying5) (.slice Try.underlying50 (.int Try.underlying5) (by kernel_rfl) (by decide)) (by kernel_rfl) (by kernel_rfl) (by kernel_rfl) (by kernel_rfl) (by kernel_rfl) (by kernel_rfl) (by kernel_rfl) (by kernel_rfl) (by kernel_rfl) (by kernel_rfl) (by kernel_rfl), .int Try.underlying5, trivial⟩) (by kernel_rfl) Try.underlying4 rfl rfl
      (fun ds hds => by rw [Try.params4] at hds; match ds, hds with | [d0, d1], _ => rfl)
      (fun W => gOk _)
      (fun y hy => over_ok y.1.1 y.1.2.1 y.1.2.2.1 y.1.2.2.2.1 y.2.1 y.1.2.2.2.2.1 (wf8 hy.1.1) (wf8 hy.1.2.1) (wf8 hy.1.2.2.1) (wf8 hy.1.2.2.2.1) (wf8 hy.2.1) fun x hx => wf8 (hy.1.2.2.2.2.1.2 x hx)))
#print axioms sessionOver_holds
end Go.Proofs.Ythgalldffgaddaa
