/- BlockTwo: the statement, proved; no conditions beyond its own. -/
import Derived.Test.YtmmenojmldollaaBlkS
import Derived.Test.YtmmenojmldollaaBlkT
set_option linter.unusedVariables false
set_option linter.unusedSimpArgs false
namespace Go.Proofs.Ytmmenojmldollaa
open Go Go.Vm
set_option maxRecDepth 100000
set_option linter.unusedSimpArgs false
theorem blockTwo_holds : Rows.BlockTwoSaid :=
  OpenClaim.holds_of_wide 4 Try.f4 rfl rfl rfl rfl rfl rfl rfl ⟨rfl, rfl, rfl, rfl, rfl⟩ rfl rfl rfl rfl rfl (by kernel_rfl) Try.func4 (by kernel_rfl)
    (of_decide_eq_true (by kernel_rfl)) (by unfold Func.isWrapper; first | (rw [if_pos (by decide +kernel)]; kernel_rfl) | (rw [if_neg (by decide +kernel)]; exact ⟨rfl, rfl⟩))
    (fun os started H enc _ => law_returns0 (C := Try.checked) (s := Rows.blockTwoSpec) (fn := Try.f4) (gv := gv) (ss := [(.pair (.pair (.int .i64) (.pair (.pair (.int .u32) (.pair (.int .u32) (.pair (.int .u32) (.pair (.int .u32) (.pair (.int .u32) (.pair (.int .u32) .unit)))))) (.pair (.pair (.int .i64) (.pair (.int .i64) (.pair (.int .i64) (.pair (.int .i64) (.pair (.int .i64) (.pair (.int .i64) .unit)))))) .unit))) (.pair (.pair (.int .i64) (.pair (.pair (.int .u32) (.pair (.int .u32) (.pair (.int .u32) (.pair (.int .u32) (.pair (.int .u32) (.pair (.int .u32) .unit)))))) (.pair (.pair (.int .i64) (.pair (.int .i64) (.pair (.int .i64) (.pair (.int .i64) (.pair (.int .i64) (.pair (.int .i64) .unit)))))) .unit))) .unit))]) (tb := 4) own started (by kernel_rfl) Try.func4 (by kernel_rfl) (by kernel_rfl) laidOut
      (ChangeSpec.witness6 (enc := enc) (C := Try.checked) false ⟨#[], #[.agg #[.int .i64 0, .int .u32 0, .int .u32 0, .int .u32 0, .int .u32 0, .int .u32 0, .int .u32 0, .int .i64 0, .int .i64 0, .int .i64 0, .int .i64 0, .int .i64 0, .int .i64 0, .int .i64 0, .int .u32 0, .int .u32 0, .int .u32 0, .int .u32 0, .int .u32 0, .int .u32 0, .int .i64 0, .int .i64 0, .int .i64 0, .int .i64 0, .int .i64 0, .int .i64 0]], []⟩ 8 (by kernel_rfl) (by kernel_rfl) (by kernel_rfl) (by kernel_rfl))
      (by rw [Try.params4]; exact ⟨(.struct2 Try.underlying44 (.struct3 Try.underlying26 (.int Try.underlying3) (.array6 Try.underlying23 (.int Try.underlying22) (by kernel_rfl) (by kernel_rfl)) (.array6 Try.underlying24 (.int Try.underlying3) (by kernel_rfl) (by kernel_rfl)) (by kernel_rfl) (by kernel_rfl) (by kernel_rfl) (by kernel_rfl) (by kernel_rfl) (by kernel_rfl) (by kernel_rfl)) (.struct3 Try.underlying26 (.int Try.underlying3) (.array6 Try.underlying23 (.int Try.underlying22) (by kernel_rfl) (by kernel_rfl)) (.array6 Try.underlying24 (.int Try.underlying3) (by kernel_rfl) (by kernel_rfl)) (by kernel_rfl) (by kernel_rfl) (by kernel_rfl) (by kernel_rfl) (by kernel_rfl) (by kernel_rfl) (by kernel_rfl)) (by kernel_rfl) (by kernel_rfl) (by kernel_rfl) (by kernel_rfl) (by kernel_rfl)), trivial⟩) (by kernel_rfl) Try.underlying4 rfl rfl
      (fun ds hds => by rw [Try.params4] at hds; match ds, hds with | [d0], _ => rfl)
      (fun W => gOk _)
      (fun y hy => two_ok ⟨y.1.1.1, y.1.1.2.1.1, y.1.1.2.1.2.1, y.1.1.2.1.2.2.1, y.1.1.2.1.2.2.2.1, y.1.1.2.1.2.2.2.2.1, y.1.1.2.1.2.2.2.2.2.1, y.1.1.2.2.1.1, y.1.1.2.2.1.2.1, y.1.1.2.2.1.2.2.1, y.1.1.2.2.1.2.2.2.1, y.1.1.2.2.1.2.2.2.2.1, y.1.1.2.2.1.2.2.2.2.2.1⟩ ⟨y.1.2.1.1, y.1.2.1.2.1.1, y.1.2.1.2.1.2.1, y.1.2.1.2.1.2.2.1, y.1.2.1.2.1.2.2.2.1, y.1.2.1.2.1.2.2.2.2.1, y.1.2.1.2.1.2.2.2.2.2.1, y.1.2.1.2.2.1.1, y.1.2.1.2.2.1.2.1, y.1.2.1.2.2.1.2.2.1, y.1.2.1.2.2.1.2.2.2.1, y.1.2.1.2.2.1.2.2.2.2.1, y.1.2.1.2.2.1.2.2.2.2.2.1⟩))
#print axioms blockTwo_holds
end Go.Proofs.Ytmmenojmldollaa
