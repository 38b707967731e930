/- A part of the proofs over the seat YtbppemcdphgknaaGreatDoor. -/
import Derived.Test.YtbppemcdphgknaaGreatDoorZEN
set_option linter.unusedVariables false
set_option linter.unusedSimpArgs false
namespace Go.Proofs.YtbppemcdphgknaaGreatDoor
open Go Go.Vm
set_option maxRecDepth 100000
set_option linter.unusedSimpArgs false
abbrev storeRoom_args:Array Value:=#[.int .u8 0,.slice none 0 0,.int .i64 0]
theorem storeRoom_sh1 (os:Os):((World.doorLaid Tryz.prog 400 os).forCall (fun _ _=>0) ⟨#[],storeRoom_args,[]⟩).Shaped Tryz.prog:=World.shaped_of_RefB (by kernel_rfl) (by kernel_rfl)
theorem storeRoom_ok1 (os:Os):Input.okWideB Tryz.prog ((World.doorLaid Tryz.prog 400 os).forCall (fun _ _=>0) ⟨#[],storeRoom_args,[]⟩) 7 ⟨#[],storeRoom_args,[]⟩=true:=by kernel_rfl
theorem storeRoom_pre1 {H:Type} {enc:TypeId×Value→H} (os:Os):Rows.storeRoomSpec.preB enc Tryz.prog Tryz.f7 [] false ((World.doorLaid Tryz.prog 400 os).forCall (fun _ _=>0) ⟨#[],storeRoom_args,[]⟩).memory storeRoom_args 8=true:=by kernel_rfl
theorem storeRoom_sz1 {H:Type} {enc:TypeId×Value→H} (os:Os):Rows.storeRoomSpec.sizedB enc Tryz.prog Tryz.f7 false ((World.doorLaid Tryz.prog 400 os).forCall (fun _ _=>0) ⟨#[],storeRoom_args,[]⟩).memory storeRoom_args 8=true:=by kernel_rfl
theorem storeRoom_is1:AllIs Tryz.prog Tryz.f7.params.toList [.int .u8,.slice .bool,.int .i64]:=by rw[Tryz.params7];exact⟨(.int Tryz.underlying5),(.slice Tryz.underlying91 (.bool Tryz.underlying4) (by kernel_rfl) (by decide)),(.int Tryz.underlying2),trivial⟩
theorem storeRoom_in1:Tryz.prog.inits.idxOf? 7=none:=by kernel_rfl
theorem storeRoom_rd1:(Tryz.f7.params.toList.all fun t=>Tryz.prog.readableRec t&&decide (t<Tryz.prog.types.size))=true:=by kernel_rfl
theorem storeRoom_nm1:(Tryz.f7.name == "runtime.NumGoroutine")=false:=by kernel_rfl
theorem storeRoom_bd1:Tryz.f7.body.isNone=false:=by kernel_rfl
theorem storeRoom_ret1 (os:Os) (started:os.Started) {H:Type} {enc:TypeId×Value→H}:ReturnsInHanded {} Tryz.checked os 7 .any (fun w args=>(Rows.storeRoomSpec.pre enc Tryz.prog Tryz.f7 [] false w args∧laidMetH Tryz.prog laidRows w)∧sizedMet enc Tryz.prog Tryz.f7 (OpenSpec.ofChange Rows.storeRoomSpec) false w args)
   (Rows.storeRoomSpec.post enc Tryz.prog Tryz.f7 false true false false):=
 law_returns (C:=Tryz.checked) (s:=Rows.storeRoomSpec) (fn:=Tryz.f7) (gv:=gv) (ss:=[.int .u8,.slice .bool,.int .i64]) (tb:=4) own started storeRoom_in1 Tryz.func7 storeRoom_nm1 storeRoom_bd1 laidOut
   (ChangeSpec.witness_shaped (enc:=enc) (C:=Tryz.checked) (os:=os) (X:=fun w _=>laidMetH Tryz.prog laidRows w) false (World.doorLaid Tryz.prog 400 os) storeRoom_args 8 rfl (storeRoom_sh1 os) (storeRoom_ok1 os) (storeRoom_pre1 os) (storeRoom_sz1 os) (door_met os _))
   storeRoom_is1 storeRoom_rd1 Tryz.underlying4 rfl rfl
   (fun ds hds=>by rw[Tryz.params7] at hds;match ds,hds with|[d0,d1,d2],_=>rfl)
   (fun W h=>globOk h)
   (fun y hy=>storeRoom_ok y.1 y.2.2.1 y.2.1 (wf8 hy.1) (wf64 hy.2.2.1))
theorem storeRoom_holds:Rows.StoreRoomSaid:=
 OpenClaim.holds_of_wide 7 Tryz.f7 rfl rfl rfl rfl rfl rfl rfl ⟨rfl,rfl,rfl,rfl,rfl⟩ rfl rfl rfl rfl rfl (by kernel_rfl) Tryz.func7 (by kernel_rfl)
  (of_decide_eq_true (by kernel_rfl)) (by unfold Func.isWrapper;first|(rw[if_pos (by decide +kernel)];kernel_rfl)|(rw[if_neg (by decide +kernel)];exact⟨rfl,rfl⟩))
  (fun os started H enc _=>storeRoom_ret1 os started)
#print axioms storeRoom_holds
end Go.Proofs.YtbppemcdphgknaaGreatDoor
