/- CalcOrders: the statement, proved; no conditions beyond its own. -/
import Derived.Test.YtccnfkblkihgjaaCalK
import Derived.Test.YtccnfkblkihgjaaCalG
set_option linter.unusedVariables false
set_option linter.unusedSimpArgs false
namespace Go.Proofs.Ytccnfkblkihgjaa
open Go Go.Vm
set_option maxRecDepth 100000
set_option linter.unusedSimpArgs false
theorem calcOrders_holds : Rows.CalcOrdersSaid :=
  OpenClaim.holds_of_wide 6 Try.f6 rfl rfl rfl rfl rfl rfl rfl ⟨rfl, rfl, rfl, rfl, rfl⟩ rfl rfl rfl rfl rfl (by kernel_rfl) Try.func6 (by kernel_rfl)
    (of_decide_eq_true (by kernel_rfl)) (by unfold Func.isWrapper; first | (rw [if_pos (by decide +kernel)]; kernel_rfl) | (rw [if_neg (by decide +kernel)]; exact ⟨rfl, rfl⟩))
    (fun os started H enc _ => law_returns0 (C := Try.checked) (s := Rows.calcOrdersSpec) (fn := Try.f6) (gv := gv) (ss := [.pair (.int .i64) (.pair (.int .i64) .unit), .pair (.int .i64) (.pair (.int .i64) .unit), .pair (.int .i64) (.pair (.int .i64) .unit)]) (tb := 4) own started (by kernel_rfl) Try.func6 (by kernel_rfl) (by kernel_rfl) laidOut
      (ChangeSpec.witness6 (enc := enc) (C := Try.checked) false ⟨#[], #[.agg #[.int .i64 0, .int .i64 0], .agg #[.int .i64 0, .int .i64 0], .agg #[.int .i64 0, .int .i64 0]], []⟩ 8 (by kernel_rfl) (by kernel_rfl) (by kernel_rfl) (by kernel_rfl))
      (by rw [Try.params6]; exact ⟨.array2 Try.underlying38 (.int Try.underlying2) (by kernel_rfl) (by kernel_rfl), .array2 Try.underlying38 (.int Try.underlying2) (by kernel_rfl) (by kernel_rfl), .array2 Try.underlying38 (.int Try.underlying2) (by kernel_rfl) (by kernel_rfl), trivial⟩) (by kernel_rfl) Try.underlying4 rfl rfl
      (fun ds hds => by rw [Try.params6] at hds; match ds, hds with | [d0, d1, d2], _ => rfl)
      (fun W => gOk _)
      (fun y hy => ok6 y.1.1 y.1.2.1 y.2.1.1 y.2.1.2.1 y.2.2.1.1 y.2.2.1.2.1 (wf64 hy.1.1) (wf64 hy.1.2.1) (wf64 hy.2.1.1) (wf64 hy.2.1.2.1) (wf64 hy.2.2.1.1) (wf64 hy.2.2.1.2.1)))
#print axioms calcOrders_holds
end Go.Proofs.Ytccnfkblkihgjaa
