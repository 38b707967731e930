/- TreePlays: the statement, proved; no conditions beyond its own. -/
import Derived.Test.YtbppemcdphgknaaSlS
import Derived.Test.YtbppemcdphgknaaTuAll
set_option linter.unusedVariables false
set_option linter.unusedSimpArgs false
namespace Go.Proofs.Ytbppemcdphgknaa
open Go Go.Vm
set_option maxRecDepth 100000
set_option linter.unusedSimpArgs false
theorem treePlays_holds : Rows.TreePlaysSaid :=
  OpenClaim.holds_of_wide 7 Try.f7 rfl rfl rfl rfl rfl rfl rfl ⟨rfl, rfl, rfl, rfl, rfl⟩ rfl rfl rfl rfl rfl (by kernel_rfl) Try.func7 (by kernel_rfl)
    (of_decide_eq_true (by kernel_rfl)) (by unfold Func.isWrapper; first | (rw [if_pos (by decide +kernel)]; kernel_rfl) | (rw [if_neg (by decide +kernel)]; exact ⟨rfl, rfl⟩))
    (fun os started H enc _ => law_returns0 (C := Try.checked) (s := Rows.treePlaysSpec) (fn := Try.f7) (gv := gv) (ss := [.slice T.actSh, .slice (.int .u32)]) (tb := 4) own started (by kernel_rfl) Try.func7 (by kernel_rfl) (by kernel_rfl) laidOut
      (ChangeSpec.witness6 (enc := enc) (C := Try.checked) false ⟨#[], #[.slice none 0 0, .slice none 0 0], []⟩ 8 (by kernel_rfl) (by kernel_rfl) (by kernel_rfl) (by kernel_rfl))
      (by rw [Try.params7]; exact ⟨.slice Try.underlying59 (.struct3 Try.underlying66 (.int Try.underlying5) (.int Try.underlying64) (.int Try.underlying3) (by kernel_rfl) (by kernel_rfl) (by kernel_rfl) (by kernel_rfl) (by kernel_rfl) (by kernel_rfl) (by kernel_rfl)) (by kernel_rfl) (by decide), .slice Try.underlying60 (.int Try.underlying64) (by kernel_rfl) (by decide), trivial⟩) (by kernel_rfl) Try.underlying4 rfl rfl
      (fun ds hds => by rw [Try.params7] at hds; match ds, hds with | [d0, d1], _ => rfl)
      (fun W => gOk _)
      (fun y hy => by have h := T.plays16_ok (y.1.map T.acOf) y.2.1 (fun a ha => by obtain ⟨x, hx, rfl⟩ := List.mem_map.1 ha; exact wf8 (hy.1.2 x hx).1); rw [T.acts_arg] at h; exact h))
#print axioms treePlays_holds
end Go.Proofs.Ytbppemcdphgknaa
