/- A part of the proofs over the seat YtbppemcdphgknaaDoor. -/
import Derived.Test.YtbppemcdphgknaaDoorZEM
set_option linter.unusedVariables false
set_option linter.unusedSimpArgs false
namespace Go.Proofs.YtbppemcdphgknaaDoor
open Go Go.Vm
set_option maxRecDepth 100000
set_option linter.unusedSimpArgs false
abbrev tableRoom_args:Array Value:=#[.int .u8 0,.int .u8 0,.int .i64 0]
theorem tableRoom_sh1 (os:Os):((World.doorLaid Tryd.prog 400 os).forCall (fun _ _=>0) ⟨#[],tableRoom_args,[]⟩).Shaped Tryd.prog:=World.shaped_of_RefB (by kernel_rfl) (by kernel_rfl)
theorem tableRoom_ok1 (os:Os):Input.okWideB Tryd.prog ((World.doorLaid Tryd.prog 400 os).forCall (fun _ _=>0) ⟨#[],tableRoom_args,[]⟩) 10 ⟨#[],tableRoom_args,[]⟩=true:=by kernel_rfl
theorem tableRoom_pre1 {H:Type} {enc:TypeId×Value→H} (os:Os):Rows.tableRoomSpec.preB enc Tryd.prog Tryd.f10 [] false ((World.doorLaid Tryd.prog 400 os).forCall (fun _ _=>0) ⟨#[],tableRoom_args,[]⟩).memory tableRoom_args 8=true:=by kernel_rfl
theorem tableRoom_sz1 {H:Type} {enc:TypeId×Value→H} (os:Os):Rows.tableRoomSpec.sizedB enc Tryd.prog Tryd.f10 false ((World.doorLaid Tryd.prog 400 os).forCall (fun _ _=>0) ⟨#[],tableRoom_args,[]⟩).memory tableRoom_args 8=true:=by kernel_rfl
theorem tableRoom_is1:AllIs Tryd.prog Tryd.f10.params.toList [.int .u8,.int .u8,.int .i64]:=by rw[Tryd.params10];exact⟨(.int Tryd.underlying5),(.int Tryd.underlying5),(.int Tryd.underlying2),trivial⟩
theorem tableRoom_in1:Tryd.prog.inits.idxOf? 10=none:=by kernel_rfl
theorem tableRoom_rd1:(Tryd.f10.params.toList.all fun t=>Tryd.prog.readableRec t&&decide (t<Tryd.prog.types.size))=true:=by kernel_rfl
theorem tableRoom_nm1:(Tryd.f10.name == "runtime.NumGoroutine")=false:=by kernel_rfl
theorem tableRoom_bd1:Tryd.f10.body.isNone=false:=by kernel_rfl
theorem tableRoom_ret1 (os:Os) (started:os.Started) {H:Type} {enc:TypeId×Value→H}:ReturnsInHanded {} Tryd.checked os 10 .any (fun w args=>(Rows.tableRoomSpec.pre enc Tryd.prog Tryd.f10 [] false w args∧laidMetH Tryd.prog laidRows w)∧sizedMet enc Tryd.prog Tryd.f10 (OpenSpec.ofChange Rows.tableRoomSpec) false w args)
   (Rows.tableRoomSpec.post enc Tryd.prog Tryd.f10 false true false false):=
 law_returns (C:=Tryd.checked) (s:=Rows.tableRoomSpec) (fn:=Tryd.f10) (gv:=gv) (ss:=[.int .u8,.int .u8,.int .i64]) (tb:=4) own started tableRoom_in1 Tryd.func10 tableRoom_nm1 tableRoom_bd1 laidOut
   (ChangeSpec.witness_shaped (enc:=enc) (C:=Tryd.checked) (os:=os) (X:=fun w _=>laidMetH Tryd.prog laidRows w) false (World.doorLaid Tryd.prog 400 os) tableRoom_args 8 rfl (tableRoom_sh1 os) (tableRoom_ok1 os) (tableRoom_pre1 os) (tableRoom_sz1 os) (door_met os _))
   tableRoom_is1 tableRoom_rd1 Tryd.underlying4 rfl rfl
   (fun ds hds=>by rw[Tryd.params10] at hds;match ds,hds with|[d0,d1,d2],_=>rfl)
   (fun W h=>globOk h)
   (fun y hy=>tableRoom_ok y.1 y.2.1 y.2.2.1 (wf8 hy.1) (wf8 hy.2.1) (wf64 hy.2.2.1))
theorem tableRoom_holds:Rows.TableRoomSaid:=
 OpenClaim.holds_of_wide 10 Tryd.f10 rfl rfl rfl rfl rfl rfl rfl ⟨rfl,rfl,rfl,rfl,rfl⟩ rfl rfl rfl rfl rfl (by kernel_rfl) Tryd.func10 (by kernel_rfl)
  (of_decide_eq_true (by kernel_rfl)) (by unfold Func.isWrapper;first|(rw[if_pos (by decide +kernel)];kernel_rfl)|(rw[if_neg (by decide +kernel)];exact⟨rfl,rfl⟩))
  (fun os started H enc _=>tableRoom_ret1 os started)
#print axioms tableRoom_holds
end Go.Proofs.YtbppemcdphgknaaDoor
