/- Chapter 14: the example. -/
import Derived.Test.YtbppemcdphgknaaSlI
set_option linter.unusedVariables false
set_option linter.unusedSimpArgs false
namespace Go.Proofs.Ytbppemcdphgknaa
open Go Go.Vm
set_option maxRecDepth 100000
set_option maxHeartbeats 40000000
set_option linter.unusedSimpArgs false
set_option linter.unusedVariables false
noncomputable def cxL : Cx DV := cxOf [(12, 1), (13, 1), (14, 1), (15, 1), (16, 1), (22, 1), (24, 1)]
def P1 : List Pl := newPg
def P2 : List Pl := ⟨true, none⟩ :: ⟨true, none⟩ :: List.replicate 6 ⟨false, none⟩
def P3 : List Pl := ⟨false, none⟩ :: ⟨true, none⟩ :: List.replicate 6 ⟨false, none⟩
theorem inv0 : Inv 0 [] := ⟨rfl, by decide, by decide, by decide⟩
theorem wakes_ok : PTriple Try.prog gv 17 [] (.bool true) := by
  have c0 : ATriple Try.prog gv R0 12 [i64V 2] [] (.ref (0, 0) 0) [] (some (.abs (slF 2 0 0 []))) := newF 2
  have c1 : ATriple Try.prog gv R0 13 [.ref (0, 0) 0] [.abs (slF 2 0 0 [])] (.tup [i64V 0, .bool true]) [.abs (slF 2 1 1 P1)] none := takeF inv0 (by decide)
  have c2 : ATriple Try.prog gv R0 13 [.ref (0, 0) 0] [.abs (slF 2 1 1 P1)] (.tup [i64V 1, .bool true]) [.abs (slF 2 2 2 P2)] none := takeF ⟨rfl, by decide, by decide, by decide⟩ (by decide)
  have c3 : ATriple Try.prog gv R0 13 [.ref (0, 0) 0] [.abs (slF 2 2 2 P2)] (.tup [i64V 0, .bool false]) [.abs (slF 2 2 2 P2)] none := takeFull (by decide)
  have c4 : ATriple Try.prog gv R0 14 [.ref (0, 0) 0, i64V 0] [.abs (slF 2 2 2 P2)] (.bool true) [.abs (slF 2 1 0 P3)] none := freeF ⟨rfl, by decide, by decide, by decide⟩ ⟨by decide, _, rfl, rfl⟩
  have c5 : ATriple Try.prog gv R0 13 [.ref (0, 0) 0] [.abs (slF 2 1 0 P3)] (.tup [i64V 0, .bool true]) [.abs (slF 2 2 1 P2)] none := takeF ⟨rfl, by decide, by decide, by decide⟩ (by decide)
  have c6 : ATriple Try.prog gv R0 15 [.ref (0, 0) 0] [.abs (slF 2 2 1 P2)] (i64V 2) [.abs (slF 2 2 1 P2)] none := lenF 2 2 1 P2
  have c7 : ATriple Try.prog gv R0 16 [.ref (0, 0) 0] [.abs (slF 2 2 1 P2)] (i64V 1) [.abs (slF 2 2 1 P2)] none := pagesF 2 2 1 P2
  refine PTriple.of_body (C := cxL) Try.func17 rfl (by kernel_rfl) (mixedOf _) fun E hE => ?_
  repeat' (conv => whnf); first
   | (refine bcase_of (fun hr => ?_) (fun hr => ?_) <;> first | (exact absurd hr (by decide)) | skip)
   | (apply And.intro; · first | exact Nat.le_of_ble_eq_true rfl | (show indep _ _ = true; kernel_rfl) | decide | exact ⟨by decide, by decide⟩ | exact ⟨Nat.le_of_ble_eq_true rfl, allOne_of rfl⟩)
   | (apply Exists.intro; apply And.intro; · first | exact rfl)
   | (apply Exists.intro; apply Exists.intro; apply Exists.intro; apply And.intro; · first | (refine ATriple.callN (c0) ?_ ?_ ?_ <;> rfl) | (refine ATriple.callN (c1) ?_ ?_ ?_ <;> rfl) | (refine ATriple.callN (c2) ?_ ?_ ?_ <;> rfl) | (refine ATriple.callN (c3) ?_ ?_ ?_ <;> rfl) | (refine ATriple.callN (c4) ?_ ?_ ?_ <;> rfl) | (refine ATriple.callN (c5) ?_ ?_ ?_ <;> rfl) | (refine ATriple.callN (c6) ?_ ?_ ?_ <;> rfl) | (refine ATriple.callN (c7) ?_ ?_ ?_ <;> rfl))
   | fail
  all_goals (conv => whnf)
  all_goals rfl
end Go.Proofs.Ytbppemcdphgknaa
