/- SlabPlays: the statement, proved; no conditions beyond its own. -/
import Derived.Test.YtbppemcdphgknaaSlS
import Derived.Test.YtbppemcdphgknaaSlU
set_option linter.unusedVariables false
set_option linter.unusedSimpArgs false
namespace Go.Proofs.Ytbppemcdphgknaa
open Go Go.Vm
set_option maxRecDepth 100000
set_option linter.unusedSimpArgs false
theorem slabPlays_holds : Rows.SlabPlaysSaid :=
  OpenClaim.holds_of_wide 4 Try.f4 rfl rfl rfl rfl rfl rfl rfl ⟨rfl, rfl, rfl, rfl, rfl⟩ rfl rfl rfl rfl rfl (by kernel_rfl) Try.func4 (by kernel_rfl)
    (of_decide_eq_true (by kernel_rfl)) (by unfold Func.isWrapper; first | (rw [if_pos (by decide +kernel)]; kernel_rfl) | (rw [if_neg (by decide +kernel)]; exact ⟨rfl, rfl⟩))
    (fun os started H enc _ => law_returns0 (C := Try.checked) (s := Rows.slabPlaysSpec) (fn := Try.f4) (gv := gv) (ss := [.int .i64, .slice actSh]) (tb := 4) own started (by kernel_rfl) Try.func4 (by kernel_rfl) (by kernel_rfl) laidOut
      (ChangeSpec.witness6 (enc := enc) (C := Try.checked) false ⟨#[], #[.int .i64 0, .slice none 0 0], []⟩ 8 (by kernel_rfl) (by kernel_rfl) (by kernel_rfl) (by kernel_rfl))
      (by rw [Try.params4]; exact ⟨.int Try.underlying3, .slice Try.underlying32 (.struct3 Try.underlying37 (.int Try.underlying5) (.int Try.underlying3) (.slice Try.underlying35 (.struct3 Try.underlying54 (.int Try.underlying3) (.int Try.underlying3) (.struct3 Try.underlying52 (.int Try.underlying2) (.array2 Try.underlying48 (.int Try.underlying2) (by kernel_rfl) (by kernel_rfl)) (.array2 Try.underlying50 (.slice Try.underlying49 (.struct2 Try.underlying57 (.int Try.underlying2) (.int Try.underlying2) (by kernel_rfl) (by kernel_rfl) (by kernel_rfl) (by kernel_rfl) (by kernel_rfl)) (by kernel_rfl) (by decide)) (by kernel_rfl) (by kernel_rfl)) (by kernel_rfl) (by kernel_rfl) (by kernel_rfl) (by kernel_rfl) (by kernel_rfl) (by kernel_rfl) (by kernel_rfl)) (by kernel_rfl) (by kernel_rfl) (by kernel_rfl) (by kernel_rfl) (by kernel_rfl) (by kernel_rfl) (by kernel_rfl)) (by kernel_rfl) (by decide)) (by kernel_rfl) (by kernel_rfl) (by kernel_rfl) (by kernel_rfl) (by kernel_rfl) (by kernel_rfl) (by kernel_rfl)) (by kernel_rfl) (by decide), trivial⟩) (by kernel_rfl) Try.underlying4 rfl rfl
      (fun ds hds => by rw [Try.params4] at hds; match ds, hds with | [d0, d1], _ => rfl)
      (fun W => gOk _)
      (fun y hy => by have h := plays_ok y.1 (y.2.1.map acOf) (fun a ha => by obtain ⟨x, hx, rfl⟩ := List.mem_map.1 ha; exact wf8 (hy.2.1.2 x hx).1); rw [acts_arg] at h; exact h))
#print axioms slabPlays_holds
end Go.Proofs.Ytbppemcdphgknaa
