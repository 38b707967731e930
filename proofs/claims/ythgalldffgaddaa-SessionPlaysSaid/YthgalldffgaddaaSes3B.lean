/- SessionPlays: the statement, proved; no conditions beyond its own. -/
import Derived.Test.YthgalldffgaddaaSesK
import Derived.Test.YthgalldffgaddaaSesS
set_option linter.unusedVariables false
set_option linter.unusedSimpArgs false
namespace Go.Proofs.Ythgalldffgaddaa
open Go Go.Vm
set_option maxRecDepth 100000
set_option linter.unusedSimpArgs false
theorem sessionPlays_holds : Rows.SessionPlaysSaid :=
  OpenClaim.holds_of_wide 3 Try.f3 rfl rfl rfl rfl rfl rfl rfl ⟨rfl, rfl, rfl, rfl, rfl⟩ rfl rfl rfl rfl rfl (by kernel_rfl) Try.func3 (by kernel_rfl)
    (of_decide_eq_true (by kernel_rfl)) (by unfold Func.isWrapper; first | (rw [if_pos (by decide +kernel)]; kernel_rfl) | (rw [if_neg (by decide +kernel)]; exact ⟨rfl, rfl⟩))
    (fun os started H enc _ => law_returns0 (C := Try.checked) (s := Rows.sessionPlaysSpec) (fn := Try.f3) (gv := gv) (ss := [.int .i64, .int .i64, .slice (.pair (.int .u8) (.pair (.int .i64) (.pair (.pair (.int .i64) (.pair (.int .i64) .unit)) .unit)))]) (tb := 4) own started (by kernel_rfl) Try.func3 (by kernel_rfl) (by kernel_rfl) laidOut
      (ChangeSpec.witness6 (enc := enc) (C := Try.checked) false ⟨#[], #[.int .i64 0, .int .i64 0, .slice none 0 0], []⟩ 8 (by kernel_rfl) (by kernel_rfl) (by kernel_rfl) (by kernel_rfl))
      (by rw [Try.params3]; exact ⟨.int Try.underlying3, .int Try.underlying3, .slice Try.underlying22 (.struct3 Try.underlying37 (.int Try.underlying5) (.int Try.underlying3) (.struct2 Try.underlying35 (.int Try.underlying3) (.int Try.underlying3) (by kernel_rfl) (by kernel_rfl) (by kernel_rfl) (by kernel_rfl) (by kernel_rfl)) (by kernel_rfl) (by kernel_rfl) (by kernel_rfl) (by kernel_rfl) (by kernel_rfl) (by kernel_rfl) (by kernel_rfl)) (by kernel_rfl) (by decide), trivial⟩) (by kernel_rfl) Try.underlying4 rfl rfl
      (fun ds hds => by rw [Try.params3] at hds; match ds, hds with | [d0, d1, d2], _ => rfl)
      (fun W => gOk _)
      (fun y hy => by have h := plays_ok y.1 y.2.1 (y.2.2.1.map fun z => (z.1, z.2.1, z.2.2.1.1, z.2.2.1.2.1)) (fun z hz => by obtain ⟨x, hx, rfl⟩ := List.mem_map.1 hz; exact ⟨wf8 (hy.2.2.1.2 x hx).1, wf64 (hy.2.2.1.2 x hx).2.1⟩); rw [acts_arg] at h; exact h))
#print axioms sessionPlays_holds
end Go.Proofs.Ythgalldffgaddaa
