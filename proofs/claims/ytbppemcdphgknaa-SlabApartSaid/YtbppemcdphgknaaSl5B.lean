/- SlabApart: the statement, proved; no conditions beyond its own. -/
import Derived.Test.YtbppemcdphgknaaSlS
import Derived.Test.YtbppemcdphgknaaSlZ
set_option linter.unusedVariables false
set_option linter.unusedSimpArgs false
namespace Go.Proofs.Ytbppemcdphgknaa
open Go Go.Vm
set_option maxRecDepth 100000
set_option linter.unusedSimpArgs false
theorem slabApart_holds : Rows.SlabApartSaid :=
  OpenClaim.holds_of_wide 5 Try.f5 rfl rfl rfl rfl rfl rfl rfl ⟨rfl, rfl, rfl, rfl, rfl⟩ rfl rfl rfl rfl rfl (by kernel_rfl) Try.func5 (by kernel_rfl)
    (of_decide_eq_true (by kernel_rfl)) (by unfold Func.isWrapper; first | (rw [if_pos (by decide +kernel)]; kernel_rfl) | (rw [if_neg (by decide +kernel)]; exact ⟨rfl, rfl⟩))
    (fun os started H enc _ => law_returns0 (C := Try.checked) (s := Rows.slabApartSpec) (fn := Try.f5) (gv := gv) (ss := [.int .u8, .int .u8, .int .u8]) (tb := 4) own started (by kernel_rfl) Try.func5 (by kernel_rfl) (by kernel_rfl) laidOut
      (ChangeSpec.witness6 (enc := enc) (C := Try.checked) false ⟨#[], #[.int .u8 0, .int .u8 0, .int .u8 0], []⟩ 8 (by kernel_rfl) (by kernel_rfl) (by kernel_rfl) (by kernel_rfl))
      (by rw [Try.params5]; exact ⟨.int Try.underlying5, .int Try.underlying5, .int Try.underlying5, trivial⟩) (by kernel_rfl) Try.underlying4 rfl rfl
      (fun ds hds => by rw [Try.params5] at hds; match ds, hds with | [d0, d1, d2], _ => rfl)
      (fun W => gOk _)
      (fun y hy => apart_ok y.1 y.2.1 y.2.2.1 (wf8 hy.1) (wf8 hy.2.1) (wf8 hy.2.2.1)))
#print axioms slabApart_holds
end Go.Proofs.Ytbppemcdphgknaa
