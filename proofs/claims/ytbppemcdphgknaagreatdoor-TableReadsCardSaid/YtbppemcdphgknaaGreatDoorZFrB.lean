/- A part of the proofs over the seat YtbppemcdphgknaaGreatDoor. -/
import Derived.Test.YtbppemcdphgknaaGreatDoorZEM
import Derived.Test.YtbppemcdphgknaaGreatDoorT5
set_option linter.unusedVariables false
set_option linter.unusedSimpArgs false
namespace Go.Proofs.YtbppemcdphgknaaGreatDoor
open Go Go.Vm
set_option maxRecDepth 100000
set_option linter.unusedSimpArgs false
abbrev tableReads_args:Array Value:=#[.agg #[.int .i64 0,.int .i64 0,.int .i64 0],.slice none 0 0,.agg #[.int .u8 0,.int .u8 0,.int .u8 0,.int .u8 0,.int .u8 0,.int .i64 0,.int .i64 0,.int .i64 0,.int .i64 0,.int .i64 0,.slice none 0 0,.slice none 0 0,.bool false]]
theorem tableReads_sh1 (os:Os):((World.doorLaid Tryz.prog 400 os).forCall (fun _ _=>0) ⟨#[],tableReads_args,[]⟩).Shaped Tryz.prog:=World.shaped_of_RefB (by kernel_rfl) (by kernel_rfl)
theorem tableReads_ok1 (os:Os):Input.okWideB Tryz.prog ((World.doorLaid Tryz.prog 400 os).forCall (fun _ _=>0) ⟨#[],tableReads_args,[]⟩) 3 ⟨#[],tableReads_args,[]⟩=true:=by kernel_rfl
theorem tableReads_pre1 {H:Type} {enc:TypeId×Value→H} (os:Os):Rows.tableReadsSpec.preB enc Tryz.prog Tryz.f3 [] false ((World.doorLaid Tryz.prog 400 os).forCall (fun _ _=>0) ⟨#[],tableReads_args,[]⟩).memory tableReads_args 8=true:=by kernel_rfl
theorem tableReads_sz1 {H:Type} {enc:TypeId×Value→H} (os:Os):Rows.tableReadsSpec.sizedB enc Tryz.prog Tryz.f3 false ((World.doorLaid Tryz.prog 400 os).forCall (fun _ _=>0) ⟨#[],tableReads_args,[]⟩).memory tableReads_args 8=true:=by kernel_rfl
theorem tableReads_is1:AllIs Tryz.prog Tryz.f3.params.toList [askSh,.slice actSh,actSh]:=by rw[Tryz.params3];exact⟨(.struct3 Tryz.underlying23 (.int Tryz.underlying3) (.int Tryz.underlying3) (.int Tryz.underlying3) (by kernel_rfl) (by kernel_rfl) (by kernel_rfl) (by kernel_rfl) (by kernel_rfl) (by kernel_rfl) (by kernel_rfl)),(.slice Tryz.underlying24 (.struct6 Tryz.underlying33 (.int Tryz.underlying5) (.array4 Tryz.underlying26 (.int Tryz.underlying5) (by kernel_rfl) (by kernel_rfl)) (.int Tryz.underlying3) (.int Tryz.underlying3) (.struct3 Tryz.underlying31 (.int Tryz.underlying2) (.array2 Tryz.underlying27 (.int Tryz.underlying2) (by kernel_rfl) (by kernel_rfl)) (.array2 Tryz.underlying29 (.slice Tryz.underlying28 (.struct2 Tryz.underlying201 (.int Tryz.underlying2) (.int Tryz.underlying2) (by kernel_rfl) (by kernel_rfl) (by kernel_rfl) (by kernel_rfl) (by kernel_rfl)) (by kernel_rfl) (by decide)) (by kernel_rfl) (by kernel_rfl)) (by kernel_rfl) (by kernel_rfl) (by kernel_rfl) (by kernel_rfl) (by kernel_rfl) (by kernel_rfl) (by kernel_rfl)) (.bool Tryz.underlying4) (by kernel_rfl) (by kernel_rfl) (by kernel_rfl) (by kernel_rfl) (by kernel_rfl) (by kernel_rfl) (by kernel_rfl) (by kernel_rfl) (by kernel_rfl) (by kernel_rfl) (by kernel_rfl) (by kernel_rfl) (by kernel_rfl)) (by kernel_rfl) (by decide)),(.struct6 Tryz.underlying33 (.int Tryz.underlying5) (.array4 Tryz.underlying26 (.int Tryz.underlying5) (by kernel_rfl) (by kernel_rfl)) (.int Tryz.underlying3) (.int Tryz.underlying3) (.struct3 Tryz.underlying31 (.int Tryz.underlying2) (.array2 Tryz.underlying27 (.int Tryz.underlying2) (by kernel_rfl) (by kernel_rfl)) (.array2 Tryz.underlying29 (.slice Tryz.underlying28 (.struct2 Tryz.underlying201 (.int Tryz.underlying2) (.int Tryz.underlying2) (by kernel_rfl) (by kernel_rfl) (by kernel_rfl) (by kernel_rfl) (by kernel_rfl)) (by kernel_rfl) (by decide)) (by kernel_rfl) (by kernel_rfl)) (by kernel_rfl) (by kernel_rfl) (by kernel_rfl) (by kernel_rfl) (by kernel_rfl) (by kernel_rfl) (by kernel_rfl)) (.bool Tryz.underlying4) (by kernel_rfl) (by kernel_rfl) (by kernel_rfl) (by kernel_rfl) (by kernel_rfl) (by kernel_rfl) (by kernel_rfl) (by kernel_rfl) (by kernel_rfl) (by kernel_rfl) (by kernel_rfl) (by kernel_rfl) (by kernel_rfl)),trivial⟩
theorem tableReads_in1:Tryz.prog.inits.idxOf? 3=none:=by kernel_rfl
theorem tableReads_rd1:(Tryz.f3.params.toList.all fun t=>Tryz.prog.readableRec t&&decide (t<Tryz.prog.types.size))=true:=by kernel_rfl
theorem tableReads_nm1:(Tryz.f3.name == "runtime.NumGoroutine")=false:=by kernel_rfl
theorem tableReads_bd1:Tryz.f3.body.isNone=false:=by kernel_rfl
theorem tableReads_ret1 (os:Os) (started:os.Started) {H:Type} {enc:TypeId×Value→H}:ReturnsInHanded {} Tryz.checked os 3 .any (fun w args=>(Rows.tableReadsSpec.pre enc Tryz.prog Tryz.f3 [] false w args∧laidMetH Tryz.prog laidRows w)∧sizedMet enc Tryz.prog Tryz.f3 (OpenSpec.ofChange Rows.tableReadsSpec) false w args)
   (Rows.tableReadsSpec.post enc Tryz.prog Tryz.f3 false true false false):=
 law_returns (C:=Tryz.checked) (s:=Rows.tableReadsSpec) (fn:=Tryz.f3) (gv:=gv) (ss:=[askSh,.slice actSh,actSh]) (tb:=4) own started tableReads_in1 Tryz.func3 tableReads_nm1 tableReads_bd1 laidOut
   (ChangeSpec.witness_shaped (enc:=enc) (C:=Tryz.checked) (os:=os) (X:=fun w _=>laidMetH Tryz.prog laidRows w) false (World.doorLaid Tryz.prog 400 os) tableReads_args 8 rfl (tableReads_sh1 os) (tableReads_ok1 os) (tableReads_pre1 os) (tableReads_sz1 os) (door_met os _))
   tableReads_is1 tableReads_rd1 Tryz.underlying4 rfl rfl
   (fun ds hds=>by rw[Tryz.params3] at hds;match ds,hds with|[d0,d1,d2],_=>rfl)
   (fun W h=>globOk h)
   (fun y hy=>by have h:=tableReads_ok y.1.1 y.1.2.1 y.1.2.2.1 (y.2.1.map actOf) (actOf y.2.2.1) (acts64 hy.2.1) (act64 hy.2.2.1) (wf64 hy.2.2.1.2.2.1);rw[acts_arg hy.2.1,show actV (actOf y.2.2.1)=V.agg (actSh.enc y.2.2.1) from congrArg V.agg (act_enc hy.2.2.1)] at h;exact h)
theorem tableReads_holds:Rows.TableReadsSaid:=
 OpenClaim.holds_of_wide 3 Tryz.f3 rfl rfl rfl rfl rfl rfl rfl ⟨rfl,rfl,rfl,rfl,rfl⟩ rfl rfl rfl rfl rfl (by kernel_rfl) Tryz.func3 (by kernel_rfl)
  (of_decide_eq_true (by kernel_rfl)) (by unfold Func.isWrapper;first|(rw[if_pos (by decide +kernel)];kernel_rfl)|(rw[if_neg (by decide +kernel)];exact⟨rfl,rfl⟩))
  (fun os started H enc _=>tableReads_ret1 os started)
#print axioms tableReads_holds
end Go.Proofs.YtbppemcdphgknaaGreatDoor
