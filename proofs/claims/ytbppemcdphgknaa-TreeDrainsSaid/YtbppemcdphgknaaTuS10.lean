/- TreeDrains: the statement, proved; no conditions beyond its own. -/
import Derived.Test.YtbppemcdphgknaaSlS
import Derived.Test.YtbppemcdphgknaaTuAll
set_option linter.unusedVariables false
set_option linter.unusedSimpArgs false
namespace Go.Proofs.Ytbppemcdphgknaa
open Go Go.Vm
set_option maxRecDepth 100000
set_option linter.unusedSimpArgs false
theorem treeDrains_holds : Rows.TreeDrainsSaid :=
  OpenClaim.holds_of_wide 10 Try.f10 rfl rfl rfl rfl rfl rfl rfl ⟨rfl, rfl, rfl, rfl, rfl⟩ rfl rfl rfl rfl rfl (by kernel_rfl) Try.func10 (by kernel_rfl)
    (of_decide_eq_true (by kernel_rfl)) (by unfold Func.isWrapper; first | (rw [if_pos (by decide +kernel)]; kernel_rfl) | (rw [if_neg (by decide +kernel)]; exact ⟨rfl, rfl⟩))
    (fun os started H enc _ => law_returns0 (C := Try.checked) (s := Rows.treeDrainsSpec) (fn := Try.f10) (gv := gv) (ss := [.slice (.int .u32), .int .u8]) (tb := 4) own started (by kernel_rfl) Try.func10 (by kernel_rfl) (by kernel_rfl) laidOut
      (ChangeSpec.witness6 (enc := enc) (C := Try.checked) false ⟨#[], #[.slice none 0 0, .int .u8 0], []⟩ 8 (by kernel_rfl) (by kernel_rfl) (by kernel_rfl) (by kernel_rfl))
      (by rw [Try.params10]; exact ⟨.slice Try.underlying60 (.int Try.underlying64) (by kernel_rfl) (by decide), .int Try.underlying5, trivial⟩) (by kernel_rfl) Try.underlying4 rfl rfl
      (fun ds hds => by rw [Try.params10] at hds; match ds, hds with | [d0, d1], _ => rfl)
      (fun W => gOk _)
      (fun y hy => T.drains16_ok y.1 y.2.1 (wf8 hy.2.1)))
#print axioms treeDrains_holds
end Go.Proofs.Ytbppemcdphgknaa
