/- A part of the proofs over the seat YtbppemcdphgknaaGreatDoor. -/
import Derived.Test.YtbppemcdphgknaaGreatDoorZEM
import Derived.Test.YtbppemcdphgknaaGreatDoorT5
set_option linter.unusedVariables false
set_option linter.unusedSimpArgs false
/- TableScans: what the law's function gives, from its contract. -/
namespace Go.Proofs.YtbppemcdphgknaaGreatDoor
open Go Go.Vm
set_option maxRecDepth 100000
set_option linter.unusedSimpArgs false
abbrev tableScans_args : Array Value := #[.agg #[.int .i64 0, .int .i64 0, .int .i64 0], .slice none 0 0, .int .i64 0]
theorem tableScans_sh1 (os : Os) : ((World.doorLaid Tryz.prog 400 os).forCall (fun _ _ => 0) ⟨#[], tableScans_args, []⟩).Shaped Tryz.prog := World.shaped_of_RefB (by kernel_rfl) (by kernel_rfl)
theorem tableScans_ok1 (os : Os) : Input.okWideB Tryz.prog ((World.doorLaid Tryz.prog 400 os).forCall (fun _ _ => 0) ⟨#[], tableScans_args, []⟩) 5 ⟨#[], tableScans_args, []⟩ = true := by kernel_rfl
theorem tableScans_pre1 {H : Type} {enc : TypeId × Value → H} (os : Os) : Rows.tableScansSpec.preB enc Tryz.prog Tryz.f5 [] false ((World.doorLaid Tryz.prog 400 os).forCall (fun _ _ => 0) ⟨#[], tableScans_args, []⟩).memory tableScans_args 8 = true := by kernel_rfl
theorem tableScans_sz1 {H : Type} {enc : TypeId × Value → H} (os : Os) : Rows.tableScansSpec.sizedB enc Tryz.prog Tryz.f5 false ((World.doorLaid Tryz.prog 400 os).forCall (fun _ _ => 0) ⟨#[], tableScans_args, []⟩).memory tableScans_args 8 = true := by kernel_rfl
theorem tableScans_is1 : AllIs Tryz.prog Tryz.f5.params.toList [askSh, .slice actSh, .int .i64] := by rw [Tryz.params5]; exact ⟨(.struct3 Tryz.underlying23 (.int Tryz.underlying3) (.int Tryz.underlying3) (.int Tryz.underlying3) (by kernel_rfl) (by kernel_rfl) (by kernel_rfl) (by kernel_rfl) (by kernel_rfl) (by kernel_rfl) (by kernel_rfl)), (.slice Tryz.underlying24 (.struct6 Tryz.underlying33 (.int Tryz.underlying5) (.array4 Tryz.underlying26 (.int Tryz.underlying5) (by kernel_rfl) (by kernel_rfl)) (.int Tryz.underlying3) (.int Tryz.underlying3) (.struct3 Tryz.underlying31 (.int Tryz.underlying2) (.array2 Tryz.underlying27 (.int Tryz.underlying2) (by kernel_rfl) (by kernel_rfl)) (.array2 Tryz.underlying29 (.slice Tryz.underlying28 (.struct2 Tryz.underlying201 (.int Tryz.underlying2) (.int Tryz.underlying2) (by kernel_rfl) (by kernel_rfl) (by kernel_rfl) (by kernel_rfl) (by kernel_rfl)) (by kernel_rfl) (by decide)) (by kernel_rfl) (by kernel_rfl)) (by kernel_rfl) (by kernel_rfl) (by kernel_rfl) (by kernel_rfl) (by kernel_rfl) (by kernel_rfl) (by kernel_rfl)) (.bool Tryz.underlying4) (by kernel_rfl) (by kernel_rfl) (by kernel_rfl) (by kernel_rfl) (by kernel_rfl) (by kernel_rfl) (by kernel_rfl) (by kernel_rfl) (by kernel_rfl) (by kernel_rfl) (by kernel_rfl) (by kernel_rfl) (by kernel_rfl)) (by kernel_rfl) (by decide)), (.int Tryz.underlying3), trivial⟩
theorem tableScans_in1 : Tryz.prog.inits.idxOf? 5 = none := by kernel_rfl
theorem tableScans_rd1 : (Tryz.f5.params.toList.all fun t => Tryz.prog.readableRec t && decide (t < Tryz.prog.types.size)) = true := by kernel_rfl
theorem tableScans_nm1 : (Tryz.f5.name == "runtime.NumGoroutine") = false := by kernel_rfl
theorem tableScans_bd1 : Tryz.f5.body.isNone = false := by kernel_rfl
theorem tableScans_ret1 (os : Os) (started : os.Started) {H : Type} {enc : TypeId × Value → H} : ReturnsInHanded {} Tryz.checked os 5 .any (fun w args => (Rows.tableScansSpec.pre enc Tryz.prog Tryz.f5 [] false w args ∧ laidMetH Tryz.prog laidRows w) ∧ sizedMet enc Tryz.prog Tryz.f5 (OpenSpec.ofChange Rows.tableScansSpec) false w args)
      (Rows.tableScansSpec.post enc Tryz.prog Tryz.f5 false true false false) :=
  law_returns (C := Tryz.checked) (s := Rows.tableScansSpec) (fn := Tryz.f5) (gv := gv) (ss := [askSh, .slice actSh, .int .i64]) (tb := 4) own started tableScans_in1 Tryz.func5 tableScans_nm1 tableScans_bd1 laidOut
      (ChangeSpec.witness_shaped (enc := enc) (C := Tryz.checked) (os := os) (X := fun w _ => laidMetH Tryz.prog laidRows w) false (World.doorLaid Tryz.prog 400 os) tableScans_args 8 rfl (tableScans_sh1 os) (tableScans_ok1 os) (tableScans_pre1 os) (tableScans_sz1 os) (door_met os _))
      tableScans_is1 tableScans_rd1 Tryz.underlying4 rfl rfl
      (fun ds hds => by rw [Tryz.params5] at hds; match ds, hds with | [d0, d1, d2], _ => rfl)
      (fun W h => globOk h)
      (fun y hy => by have h := tableScans_ok y.1.1 y.1.2.1 y.1.2.2.1 (y.2.1.map actOf) y.2.2.1 (acts64 hy.2.1); rw [acts_arg hy.2.1] at h; exact h)
theorem tableScans_holds : Rows.TableScansSaid :=
  OpenClaim.holds_of_wide 5 Tryz.f5 rfl rfl rfl rfl rfl rfl rfl ⟨rfl, rfl, rfl, rfl, rfl⟩ rfl rfl rfl rfl rfl (by kernel_rfl) Tryz.func5 (by kernel_rfl)
    (of_decide_eq_true (by kernel_rfl)) (by unfold Func.isWrapper; first | (rw [if_pos (by decide +kernel)]; kernel_rfl) | (rw [if_neg (by decide +kernel)]; exact ⟨rfl, rfl⟩))
    (fun os started H enc _ => tableScans_ret1 os started)
#print axioms tableScans_holds
end Go.Proofs.YtbppemcdphgknaaGreatDoor
