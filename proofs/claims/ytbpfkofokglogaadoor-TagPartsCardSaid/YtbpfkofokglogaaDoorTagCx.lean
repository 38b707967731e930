/- A part of the proofs over the seat YtbpfkofokglogaaDoor. -/
import Derived.Test.YtbpfkofokglogaaDoorProg
import Derived.Test.YtbpfkofokglogaaDoorVm19
import Derived.KernelRfl
set_option linter.unusedVariables false
set_option linter.unusedSimpArgs false
namespace Go.Proofs.YtbpfkofokglogaaDoor
open Go Go.Vm

def tt : TT := [⟨0, 0, [], .one⟩,
  ⟨1, 8, [.undef], .one⟩,
  ⟨1, 8, [.int .i64 0], .int .i64⟩,
  ⟨1, 8, [.int .i64 0], .int .i64⟩,
  ⟨1, 1, [.bool false], .bool⟩,
  ⟨1, 1, [.int .u8 0], .int .u8⟩,
  ⟨1, 1, [.int .u8 0], .int .u8⟩,
  ⟨4, 24, [.int .i64 0, .int .i64 0, .bool false, .int .u8 0], .struct [(0, 2), (1, 3), (2, 4), (3, 6)]⟩,
  ⟨4, 24, [.int .i64 0, .int .i64 0, .bool false, .int .u8 0], .struct [(0, 2), (1, 3), (2, 4), (3, 6)]⟩,
  ⟨1, 16, [.undef], .one⟩,
  ⟨1, 16, [.undef], .one⟩,
  ⟨1, 16, [.undef], .one⟩,
  ⟨1, 8, [.int .u64 0], .int .u64⟩,
  ⟨2, 24, [.undef, .int .u64 0], .struct [(0, 9), (1, 12)]⟩,
  ⟨2, 24, [.undef, .int .u64 0], .struct [(0, 9), (1, 12)]⟩,
  ⟨1, 8, [.nilp], .ptr 48⟩,
  ⟨1, 8, [.nilp], .ptr 51⟩,
  ⟨1, 8, [.nilp], .ptr 61⟩,
  ⟨1, 8, [.nilp], .struct [(0, 17)]⟩,
  ⟨1, 8, [.nilp], .struct [(0, 17)]⟩,
  ⟨1, 16, [.undef], .one⟩,
  ⟨1, 4, [.int .i32 0], .int .i32⟩,
  ⟨2, 2, [.bool false, .bool false], .array 2 4⟩,
  ⟨1, 24, [.nils], .slice 3⟩,
  ⟨1, 8, [.undef], .one⟩,
  ⟨0, 0, [], .one⟩,
  ⟨1, 8, [.undef], .one⟩,
  ⟨2, 16, [.int .i64 0, .bool false], .struct [(0, 3), (1, 4)]⟩,
  ⟨2, 16, [.int .i64 0, .bool false], .struct [(0, 3), (1, 4)]⟩,
  ⟨1, 8, [.undef], .one⟩,
  ⟨1, 8, [.undef], .one⟩,
  ⟨1, 8, [.undef], .one⟩,
  ⟨1, 8, [.undef], .one⟩,
  ⟨1, 8, [.undef], .one⟩,
  ⟨1, 8, [.undef], .one⟩,
  ⟨1, 8, [.undef], .one⟩,
  ⟨1, 8, [.undef], .one⟩,
  ⟨1, 24, [.nils], .slice 4⟩,
  ⟨1, 8, [.undef], .one⟩,
  ⟨1, 24, [.nils], .slice 5⟩,
  ⟨1, 8, [.undef], .one⟩,
  ⟨3, 16, [.int .i64 0, .bool false, .bool false], .struct [(0, 3), (1, 4), (2, 4)]⟩,
  ⟨3, 16, [.int .i64 0, .bool false, .bool false], .struct [(0, 3), (1, 4), (2, 4)]⟩,
  ⟨0, 0, [], .one⟩,
  ⟨1, 8, [.undef], .one⟩,
  ⟨12, 64, [.int .i64 0, .bool false, .bool false, .int .i64 0, .bool false, .bool false, .int .i64 0, .bool false, .bool false, .int .i64 0, .bool false, .bool false], .array 4 42⟩,
  ⟨1, 8, [.undef], .one⟩,
  ⟨4, 40, [.nilp, .nilp, .nilp, .undef], .struct [(0, 17), (1, 17), (2, 17), (3, 9)]⟩,
  ⟨4, 40, [.nilp, .nilp, .nilp, .undef], .struct [(0, 17), (1, 17), (2, 17), (3, 9)]⟩,
  ⟨0, 0, [], .array 0 16⟩,
  ⟨0, 0, [], .struct [(0, 49)]⟩,
  ⟨0, 0, [], .struct [(0, 49)]⟩,
  ⟨1, 8, [.undef], .one⟩,
  ⟨1, 4, [.int .u32 0], .int .u32⟩,
  ⟨1, 1, [.int .u8 0], .int .u8⟩,
  ⟨1, 1, [.int .u8 0], .int .u8⟩,
  ⟨1, 8, [.undef], .one⟩,
  ⟨1, 8, [.nilp], .ptr 5⟩,
  ⟨1, 4, [.int .i32 0], .int .i32⟩,
  ⟨1, 4, [.int .i32 0], .int .i32⟩,
  ⟨11, 48, [.int .u64 0, .int .u64 0, .int .u32 0, .int .u8 0, .int .u8 0, .int .u8 0, .int .u8 0, .undef, .nilp, .int .i32 0, .int .i32 0], .struct [(0, 12), (1, 12), (2, 53), (3, 54), (4, 5), (5, 5), (6, 55), (7, 56), (8, 57), (9, 58), (10, 59)]⟩,
  ⟨11, 48, [.int .u64 0, .int .u64 0, .int .u32 0, .int .u8 0, .int .u8 0, .int .u8 0, .int .u8 0, .undef, .nilp, .int .i32 0, .int .i32 0], .struct [(0, 12), (1, 12), (2, 53), (3, 54), (4, 5), (5, 5), (6, 55), (7, 56), (8, 57), (9, 58), (10, 59)]⟩,
  ⟨1, 8, [.nilp], .one⟩]

theorem ttOk : TOk Tryd.prog tt := TOk.of_check (by kernel_rfl)
def noRep : Rep Empty := ⟨fun _ _ _ _ _ => False, fun h => h.elim⟩
def gv : Nat → V
  | 0 => .lpt 12 [[.int .i64 0, .bool false, .bool false, .int .i64 1, .bool false, .bool true, .int .i64 2, .bool true, .bool true, .int .i64 3, .bool true, .bool false]] 0 0
  | _ => .undef
noncomputable def cx : Cx Empty := { P := Tryd.prog, T := tt, flat := fun _ => false, G := gv, R := noRep, hT := ttOk, hF := fun _ h => by cases h }
theorem mixed : cx.P.follows .mixedOrders = true := by kernel_rfl
end Go.Proofs.YtbpfkofokglogaaDoor
