/- Chapter 15: what its functions come to (BlkK): the chapter’s example. -/
import Derived.Test.YtmmenojmldollaaBlkI
set_option linter.unusedVariables false
set_option linter.unusedSimpArgs false
namespace Go.Proofs.Ytmmenojmldollaa
open Go Go.Vm
set_option maxRecDepth 100000
set_option maxHeartbeats 4000000
set_option linter.unusedSimpArgs false
set_option linter.unusedVariables false
theorem wakes_ok : PTriple Try.prog gv 19 [] (.bool true) := by
  have p0 : PTriple Try.prog gv 14 [bV (B []), u32V 5, i64V 50] (.tup [bV (B [(5, 50)]), .bool true]) := put_ok [] ⟨by decide, by decide⟩ 5 50 (by decide)
  have p1 : PTriple Try.prog gv 14 [bV (B [(5, 50)]), u32V 4, i64V 40] (.tup [bV (B [(4, 40), (5, 50)]), .bool true]) := put_ok [(5, 50)] ⟨by decide, by decide⟩ 4 40 (by decide)
  have p2 : PTriple Try.prog gv 14 [bV (B [(4, 40), (5, 50)]), u32V 3, i64V 30] (.tup [bV (B [(3, 30), (4, 40), (5, 50)]), .bool true]) := put_ok [(4, 40), (5, 50)] ⟨by decide, by decide⟩ 3 30 (by decide)
  have p3 : PTriple Try.prog gv 14 [bV (B [(3, 30), (4, 40), (5, 50)]), u32V 2, i64V 20] (.tup [bV (B [(2, 20), (3, 30), (4, 40), (5, 50)]), .bool true]) := put_ok [(3, 30), (4, 40), (5, 50)] ⟨by decide, by decide⟩ 2 20 (by decide)
  have p4 : PTriple Try.prog gv 14 [bV (B [(2, 20), (3, 30), (4, 40), (5, 50)]), u32V 1, i64V 10] (.tup [bV (B [(1, 10), (2, 20), (3, 30), (4, 40), (5, 50)]), .bool true]) := put_ok [(2, 20), (3, 30), (4, 40), (5, 50)] ⟨by decide, by decide⟩ 1 10 (by decide)
  have s1 : PTriple Try.prog gv 20 [bV (B [(1, 10), (2, 20), (3, 30), (4, 40), (5, 50)])] (.tup [bV (B [(1, 10), (2, 20), (3, 30)]), bV (B [(4, 40), (5, 50)])]) := split_ok [(1, 10), (2, 20), (3, 30), (4, 40), (5, 50)] ⟨by decide, by decide⟩
  have f1 : PTriple Try.prog gv 13 [bV (B [(1, 10), (2, 20), (3, 30), (4, 40), (5, 50)]), u32V 4] (.tup [i64V 3, .bool true]) := find_ok [(1, 10), (2, 20), (3, 30), (4, 40), (5, 50)] ⟨by decide, by decide⟩ 4
  have j1 : PTriple Try.prog gv 23 [bV (B [(1, 10), (2, 20), (3, 30)]), bV (B [(4, 40), (5, 50)])] (.tup [bV (B [(1, 10), (2, 20), (3, 30), (4, 40), (5, 50)]), .bool true]) := join_ok [(1, 10), (2, 20), (3, 30)] [(4, 40), (5, 50)] ⟨by decide, by decide⟩ ⟨by decide, by decide⟩ (by decide) (by decide)
  have d1 : PTriple Try.prog gv 17 [bV (B [(1, 10), (2, 20), (3, 30), (4, 40), (5, 50)]), u32V 1] (.tup [bV (B [(2, 20), (3, 30), (4, 40), (5, 50)]), .bool true]) := drop_ok [(1, 10), (2, 20), (3, 30), (4, 40), (5, 50)] ⟨by decide, by decide⟩ 1 (by decide)
  have j2 : PTriple Try.prog gv 23 [bV (B [(4, 40), (5, 50)]), bV (B [(1, 10), (2, 20), (3, 30)])] (.tup [bV (B []), .bool false]) := join_no [(4, 40), (5, 50)] [(1, 10), (2, 20), (3, 30)] ⟨by decide, by decide⟩ ⟨by decide, by decide⟩ (by decide)
  have s2 : PTriple Try.prog gv 20 [bV (B [(2, 20), (3, 30), (4, 40), (5, 50)])] (.tup [bV (B [(2, 20), (3, 30)]), bV (B [(4, 40), (5, 50)])]) := split_ok [(2, 20), (3, 30), (4, 40), (5, 50)] ⟨by decide, by decide⟩
  have e1 : PTriple Try.prog gv 24 [bV (B [(2, 20), (3, 30)]), bV (B [(4, 40), (5, 50)])] (.tup [bV (B [(2, 20), (3, 30)]), bV (B [(4, 40), (5, 50)]), .bool true]) := even_ok [(2, 20), (3, 30)] [(4, 40), (5, 50)] ⟨by decide, by decide⟩ ⟨by decide, by decide⟩ (by decide)
  have g1 : PTriple Try.prog gv 10 [bV (B [(1, 10), (2, 20), (3, 30), (4, 40), (5, 50)])] (.bool true) := by have := good_ok (B [(1, 10), (2, 20), (3, 30), (4, 40), (5, 50)]); rwa [goodB_B ⟨by decide, by decide⟩] at this
  have g2 : PTriple Try.prog gv 10 [bV ⟨2, 0, 0, 0, 0, 0, 0, 0, 0, 0, 0, 0, 0⟩] (.bool false) := good_ok ⟨2, 0, 0, 0, 0, 0, 0, 0, 0, 0, 0, 0, 0⟩
  refine PTriple.of_body (C := cx) Try.func19 rfl (by kernel_rfl) mixed fun E hE => ?_
  repeat' (conv => whnf); first
   | (refine bcase_of (fun hr => ?_) (fun hr => ?_) <;> skip)
   | (apply And.intro; · first | exact Nat.le_of_ble_eq_true rfl | (show indep _ _ = true; kernel_rfl) | decide)
   | (apply Exists.intro; apply And.intro; · first | exact rfl | exact p0 | exact p1 | exact p2 | exact p3 | exact p4 | exact s1 | exact f1 | exact j1 | exact d1 | exact j2 | exact s2 | exact e1 | exact g1 | exact g2)
   | refine VLoop.unroll hE mixed ?_
   | fail
  all_goals (conv => whnf)
  all_goals rfl
end Go.Proofs.Ytmmenojmldollaa
