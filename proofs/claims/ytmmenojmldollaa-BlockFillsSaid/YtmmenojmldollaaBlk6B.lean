/- BlockFills: the statement, proved; no conditions beyond its own. -/
import Derived.Test.YtmmenojmldollaaBlkS
import Derived.Test.YtmmenojmldollaaBlkW
set_option linter.unusedVariables false
set_option linter.unusedSimpArgs false
namespace Go.Proofs.Ytmmenojmldollaa
open Go Go.Vm
set_option maxRecDepth 100000
set_option linter.unusedSimpArgs false
theorem blockFills_holds : Rows.BlockFillsSaid :=
  OpenClaim.holds_of_wide 6 Try.f6 rfl rfl rfl rfl rfl rfl rfl ⟨rfl, rfl, rfl, rfl, rfl⟩ rfl rfl rfl rfl rfl (by kernel_rfl) Try.func6 (by kernel_rfl)
    (of_decide_eq_true (by kernel_rfl)) (by unfold Func.isWrapper; first | (rw [if_pos (by decide +kernel)]; kernel_rfl) | (rw [if_neg (by decide +kernel)]; exact ⟨rfl, rfl⟩))
    (fun os started H enc _ => law_returns0 (C := Try.checked) (s := Rows.blockFillsSpec) (fn := Try.f6) (gv := gv) (ss := [.slice (.int .u32)]) (tb := 4) own started (by kernel_rfl) Try.func6 (by kernel_rfl) (by kernel_rfl) laidOut
      (ChangeSpec.witness6 (enc := enc) (C := Try.checked) false ⟨#[], #[.slice none 0 0], []⟩ 8 (by kernel_rfl) (by kernel_rfl) (by kernel_rfl) (by kernel_rfl))
      (by rw [Try.params6]; exact ⟨.slice Try.underlying54 (.int Try.underlying22) (by kernel_rfl) (by decide), trivial⟩) (by kernel_rfl) Try.underlying4 rfl rfl
      (fun ds hds => by rw [Try.params6] at hds; match ds, hds with | [d0], _ => rfl)
      (fun W => gOk _)
      (fun y hy => fills_ok y.1))
#print axioms blockFills_holds
end Go.Proofs.Ytmmenojmldollaa
