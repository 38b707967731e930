/- TreeDeep: the statement, proved; no conditions beyond its own. -/
import Derived.Test.YtbppemcdphgknaaSlS
import Derived.Test.YtbppemcdphgknaaTuAll
set_option linter.unusedVariables false
set_option linter.unusedSimpArgs false
namespace Go.Proofs.Ytbppemcdphgknaa
open Go Go.Vm
set_option maxRecDepth 100000
set_option linter.unusedSimpArgs false
theorem treeDeep_holds : Rows.TreeDeepSaid :=
  OpenClaim.holds_of_wide 11 Try.f11 rfl rfl rfl rfl rfl rfl rfl ⟨rfl, rfl, rfl, rfl, rfl⟩ rfl rfl rfl rfl rfl (by kernel_rfl) Try.func11 (by kernel_rfl)
    (of_decide_eq_true (by kernel_rfl)) (by unfold Func.isWrapper; first | (rw [if_pos (by decide +kernel)]; kernel_rfl) | (rw [if_neg (by decide +kernel)]; exact ⟨rfl, rfl⟩))
    (fun os started H enc _ => law_returns0 (C := Try.checked) (s := Rows.treeDeepSpec) (fn := Try.f11) (gv := gv) (ss := [.slice (.int .u32)]) (tb := 4) own started (by kernel_rfl) Try.func11 (by kernel_rfl) (by kernel_rfl) laidOut
      (ChangeSpec.witness6 (enc := enc) (C := Try.checked) false ⟨#[], #[.slice none 0 0], []⟩ 8 (by kernel_rfl) (by kernel_rfl) (by kernel_rfl) (by kernel_rfl))
      (by rw [Try.params11]; exact ⟨.slice Try.underlying60 (.int Try.underlying64) (by kernel_rfl) (by decide), trivial⟩) (by kernel_rfl) Try.underlying4 rfl rfl
      (fun ds hds => by rw [Try.params11] at hds; match ds, hds with | [d0], _ => rfl)
      (fun W => gOk _)
      (fun y hy => T.deep16_ok y.1))
#print axioms treeDeep_holds
end Go.Proofs.Ytbppemcdphgknaa
