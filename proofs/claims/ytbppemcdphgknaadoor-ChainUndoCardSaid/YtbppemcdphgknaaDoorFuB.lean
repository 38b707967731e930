/- ChainUndo: what the law's function gives, from its contract, and the card. -/
import Derived.Test.YtbppemcdphgknaaDoorG8
set_option linter.unusedVariables false
set_option linter.unusedSimpArgs false
namespace Go.Proofs.YtbppemcdphgknaaDoor
open Go Go.Vm
set_option maxRecDepth 100000
set_option linter.unusedSimpArgs false
theorem chainUndo_holds : Rows.ChainUndoSaid :=
  OpenClaim.holds_of_wide 6 Tryd.f6 rfl rfl rfl rfl rfl rfl rfl ⟨rfl, rfl, rfl, rfl, rfl⟩ rfl rfl rfl rfl rfl (by kernel_rfl) Tryd.func6 (by kernel_rfl)
    (of_decide_eq_true (by kernel_rfl)) (by unfold Func.isWrapper; first | (rw [if_pos (by decide +kernel)]; kernel_rfl) | (rw [if_neg (by decide +kernel)]; exact ⟨rfl, rfl⟩))
    (fun os started H enc _ => law_returns (C := Tryd.checked) (s := Rows.chainUndoSpec) (fn := Tryd.f6) (gv := gv) (ss := [casSh, .slice (.int .i64)]) (tb := 4) own started (by kernel_rfl) Tryd.func6 (by kernel_rfl) (by kernel_rfl) laidOut
      (ChangeSpec.witness_shaped (enc := enc) (C := Tryd.checked) (os := os) (X := fun w _ => laidMetH Tryd.prog laidRows w) false (World.doorLaid Tryd.prog 400 os) #[.agg #[.int .i64 0, .int .i64 0, .slice none 0 0, .int .i64 0, .int .i64 0, .int .i64 0, .int .i64 0, .int .i64 0, .slice none 0 0, .slice none 0 0, .bool false], .slice none 0 0] 8 rfl (World.shaped_of_RefB (by kernel_rfl) (by kernel_rfl)) (by kernel_rfl) (by kernel_rfl) (by kernel_rfl) (door_met os _))
      (by rw [Tryd.params6]; exact ⟨(.struct4 Tryd.underlying56 (.int Tryd.underlying3) (.int Tryd.underlying3) (.slice Tryd.underlying24 (.struct3 Tryd.underlying34 (.int Tryd.underlying3) (.int Tryd.underlying3) (.struct3 Tryd.underlying32 (.int Tryd.underlying2) (.array2 Tryd.underlying28 (.int Tryd.underlying2) (by kernel_rfl) (by kernel_rfl)) (.array2 Tryd.underlying30 (.slice Tryd.underlying29 (.struct2 Tryd.underlying74 (.int Tryd.underlying2) (.int Tryd.underlying2) (by kernel_rfl) (by kernel_rfl) (by kernel_rfl) (by kernel_rfl) (by kernel_rfl)) (by kernel_rfl) (by decide)) (by kernel_rfl) (by kernel_rfl)) (by kernel_rfl) (by kernel_rfl) (by kernel_rfl) (by kernel_rfl) (by kernel_rfl) (by kernel_rfl) (by kernel_rfl)) (by kernel_rfl) (by kernel_rfl) (by kernel_rfl) (by kernel_rfl) (by kernel_rfl) (by kernel_rfl) (by kernel_rfl)) (by kernel_rfl) (by decide)) (.struct4 Tryd.underlying47 (.int Tryd.underlying3) (.int Tryd.underlying3) (.struct3 Tryd.underlying32 (.int Tryd.underlying2) (.array2 Tryd.underlying28 (.int Tryd.underlying2) (by kernel_rfl) (by kernel_rfl)) (.array2 Tryd.underlying30 (.slice Tryd.underlying29 (.struct2 Tryd.underlying74 (.int Tryd.underlying2) (.int Tryd.underlying2) (by kernel_rfl) (by kernel_rfl) (by kernel_rfl) (by kernel_rfl) (by kernel_rfl)) (by kernel_rfl) (by decide)) (by kernel_rfl) (by kernel_rfl)) (by kernel_rfl) (by kernel_rfl) (by kernel_rfl) (by kernel_rfl) (by kernel_rfl) (by kernel_rfl) (by kernel_rfl)) (.bool Tryd.underlying4) (by kernel_rfl) (by kernel_rfl) (by kernel_rfl) (by kernel_rfl) (by kernel_rfl) (by kernel_rfl) (by kernel_rfl) (by kernel_rfl) (by kernel_rfl)) (by kernel_rfl) (by kernel_rfl) (by kernel_rfl) (by kernel_rfl) (by kernel_rfl) (by kernel_rfl) (by kernel_rfl) (by kernel_rfl) (by kernel_rfl)), (.slice Tryd.underlying27 (.int Tryd.underlying3) (by kernel_rfl) (by decide)), trivial⟩) (by kernel_rfl) Tryd.underlying4 rfl rfl
      (fun ds hds => by rw [Tryd.params6] at hds; match ds, hds with | [d0, d1], _ => rfl)
      (fun W h => globOk h)
      (fun y hy => by have h := undo_ok y.1.1 y.1.2.1 y.1.2.2.2.1.1 y.1.2.2.2.1.2.1 (y.1.2.2.1.map enOf) (celOf 0 0 y.1.2.2.2.1.2.2.1) y.1.2.2.2.1.2.2.2.1 y.2.1 (ents64 hy.1.2.2.1) (cel64 hy.1.2.2.2.1.2.2.1 _ _); rw [cas_arg, vs_arg] at h; exact h))
#print axioms chainUndo_holds
end Go.Proofs.YtbppemcdphgknaaDoor
