/- Chapter 1: what its functions come to (CalA). -/
import Derived.Test.YtccnfkblkihgjaaCalL
set_option linter.unusedVariables false
set_option linter.unusedSimpArgs false
namespace Go.Proofs.Ytccnfkblkihgjaa
open Go Go.Vm
set_option maxRecDepth 100000
set_option maxHeartbeats 4000000
set_option linter.unusedSimpArgs false
theorem ok37 (n : Int) : PTriple Try.prog gv 37 [.int .i64 n] (.bool false) := by
  refine PTriple.of_body (C := cx) Try.func37 rfl (by kernel_rfl) mixed fun E hE => ?_
  repeat' (conv => whnf); first
   | (refine bcase_of (fun hr => ?_) (fun hr => ?_) <;> (try simp only [decide_eq_true_eq, decide_eq_false_iff_not, gt_iff_lt, bne_iff_ne, ne_eq, beq_iff_eq, bne_eq_false_iff_eq, beq_eq_false_iff_ne] at hr) <;> try (exfalso; first | omega | (simp at hr; done)))
   | (refine And.intro (by first | exact Nat.le_of_ble_eq_true rfl | decide) ?_)
   | (refine And.intro (by show indep _ _ = true; kernel_rfl) ?_)
   | (refine Exists.intro _ (And.intro (by first | exact rfl) ?_))
   | fail
  all_goals (conv => whnf)
  all_goals rfl
theorem ok38 (n : Int) : PTriple Try.prog gv 38 [.int .u64 n] (.bool false) := by
  refine PTriple.of_body (C := cx) Try.func38 rfl (by kernel_rfl) mixed fun E hE => ?_
  repeat' (conv => whnf); first
   | (refine bcase_of (fun hr => ?_) (fun hr => ?_) <;> (try simp only [decide_eq_true_eq, decide_eq_false_iff_not, gt_iff_lt, bne_iff_ne, ne_eq, beq_iff_eq, bne_eq_false_iff_eq, beq_eq_false_iff_ne] at hr) <;> try (exfalso; first | omega | (simp at hr; done)))
   | (refine And.intro (by first | exact Nat.le_of_ble_eq_true rfl | decide) ?_)
   | (refine And.intro (by show indep _ _ = true; kernel_rfl) ?_)
   | (refine Exists.intro _ (And.intro (by first | exact rfl) ?_))
   | fail
  all_goals (conv => whnf)
  all_goals rfl
theorem ok39 (n : Int) : PTriple Try.prog gv 39 [.int .i64 n] (.bool false) := by
  refine PTriple.of_body (C := cx) Try.func39 rfl (by kernel_rfl) mixed fun E hE => ?_
  repeat' (conv => whnf); first
   | (refine bcase_of (fun hr => ?_) (fun hr => ?_) <;> (try simp only [decide_eq_true_eq, decide_eq_false_iff_not, gt_iff_lt, bne_iff_ne, ne_eq, beq_iff_eq, bne_eq_false_iff_eq, beq_eq_false_iff_ne] at hr) <;> try (exfalso; first | omega | (simp at hr; done)))
   | (refine And.intro (by first | exact Nat.le_of_ble_eq_true rfl | decide) ?_)
   | (refine And.intro (by show indep _ _ = true; kernel_rfl) ?_)
   | (refine Exists.intro _ (And.intro (by first | exact rfl) ?_))
   | fail
  all_goals (conv => whnf)
  all_goals rfl
theorem ok29 (a b : Int) : PTriple Try.prog gv 29 [.int .i64 a, .int .i64 b] (.int .i64 (cmpI a b)) := by
  refine PTriple.of_body (C := cx) Try.func29 rfl (by kernel_rfl) mixed fun E hE => ?_
  repeat' (conv => whnf); first
   | (refine bcase_of (fun hr => ?_) (fun hr => ?_) <;> (try simp only [decide_eq_true_eq, decide_eq_false_iff_not, gt_iff_lt, bne_iff_ne, ne_eq, beq_iff_eq, bne_eq_false_iff_eq, beq_eq_false_iff_ne] at hr) <;> try (exfalso; first | omega | (simp at hr; done)))
   | (refine And.intro (by first | exact Nat.le_of_ble_eq_true rfl | decide) ?_)
   | (refine And.intro (by show indep _ _ = true; kernel_rfl) ?_)
   | (refine Exists.intro _ (And.intro (by first | exact rfl | exact ok37 _) ?_))
   | fail
  all_goals (conv => whnf)
  all_goals (first | rfl | (refine congrArg (fun x : Int => V.int .i64 x) ?_; unfold cmpI; first | rfl | (split <;> first | rfl | omega | (split <;> first | rfl | omega))))
theorem ok32 (a b : Int) : PTriple Try.prog gv 32 [.int .u64 a, .int .u64 b] (.int .i64 (cmpI a b)) := by
  refine PTriple.of_body (C := cx) Try.func32 rfl (by kernel_rfl) mixed fun E hE => ?_
  repeat' (conv => whnf); first
   | (refine bcase_of (fun hr => ?_) (fun hr => ?_) <;> (try simp only [decide_eq_true_eq, decide_eq_false_iff_not, gt_iff_lt, bne_iff_ne, ne_eq, beq_iff_eq, bne_eq_false_iff_eq, beq_eq_false_iff_ne] at hr) <;> try (exfalso; first | omega | (simp at hr; done)))
   | (refine And.intro (by first | exact Nat.le_of_ble_eq_true rfl | decide) ?_)
   | (refine And.intro (by show indep _ _ = true; kernel_rfl) ?_)
   | (refine Exists.intro _ (And.intro (by first | exact rfl | exact ok38 _) ?_))
   | fail
  all_goals (conv => whnf)
  all_goals (first | rfl | (refine congrArg (fun x : Int => V.int .i64 x) ?_; unfold cmpI; first | rfl | (split <;> first | rfl | omega | (split <;> first | rfl | omega))))
theorem ok36 (a b : Int) : PTriple Try.prog gv 36 [.int .i64 a, .int .i64 b] (.int .i64 (cmpI a b)) := by
  refine PTriple.of_body (C := cx) Try.func36 rfl (by kernel_rfl) mixed fun E hE => ?_
  repeat' (conv => whnf); first
   | (refine bcase_of (fun hr => ?_) (fun hr => ?_) <;> (try simp only [decide_eq_true_eq, decide_eq_false_iff_not, gt_iff_lt, bne_iff_ne, ne_eq, beq_iff_eq, bne_eq_false_iff_eq, beq_eq_false_iff_ne] at hr) <;> try (exfalso; first | omega | (simp at hr; done)))
   | (refine And.intro (by first | exact Nat.le_of_ble_eq_true rfl | decide) ?_)
   | (refine And.intro (by show indep _ _ = true; kernel_rfl) ?_)
   | (refine Exists.intro _ (And.intro (by first | exact rfl | exact ok39 _) ?_))
   | fail
  all_goals (conv => whnf)
  all_goals (first | rfl | (refine congrArg (fun x : Int => V.int .i64 x) ?_; unfold cmpI; first | rfl | (split <;> first | rfl | omega | (split <;> first | rfl | omega))))
def orV (a b : Int) : Int := if a ≠ 0 then a else b
theorem pure_two (a b : Int) : PureEs [[i64V a], [i64V b]] := fun e he v hv => by
  simp at he
  rcases he with rfl | rfl <;> (simp at hv; subst hv; exact .int _ _)
theorem ok31 (a b : Int) : PTriple Try.prog gv 31 [.lst 1 [[i64V a], [i64V b]]] (.int .i64 (orV a b)) := by
  refine PTriple.of_body (C := cx) Try.func31 rfl (by kernel_rfl) mixed fun E hE => ?_
  repeat' (conv => whnf); first
   | (refine bcase_of (fun hr => ?_) (fun hr => ?_) <;> (try simp only [decide_eq_true_eq, decide_eq_false_iff_not, gt_iff_lt, bne_iff_ne, ne_eq, beq_iff_eq, bne_eq_false_iff_eq, beq_eq_false_iff_ne] at hr) <;> try (exfalso; first | omega | (simp at hr; done)))
   | (refine And.intro (by first | exact Nat.le_of_ble_eq_true rfl | decide | exact ⟨(by decide : (0 : Int) ≤ 0), (by decide : (0 : Int) < 2)⟩ | exact ⟨(by decide : (0 : Int) ≤ 1), (by decide : (1 : Int) < 2)⟩ | exact pure_two _ _) ?_)
   | (refine And.intro (by show indep _ _ = true; kernel_rfl) ?_)
   | (refine Exists.intro _ (And.intro (by first | exact rfl) ?_))
   | refine VLoop.unroll hE mixed ?_
   | fail
  all_goals (conv => whnf)
  all_goals (first | rfl | (refine congrArg (fun x : Int => V.int .i64 x) ?_; unfold orV; first | rfl | (split <;> first | rfl | omega)))
def sgn2 (a b : Int) : Int := IntKind.i64.wrap (cmpI a 0 * cmpI b 0)
theorem ok28 (a b : Int) : PTriple Try.prog gv 28 [i64V a, i64V b] (i64V (sgn2 a b)) := by
  refine PTriple.of_body (C := cx) Try.func28 rfl (by kernel_rfl) mixed fun E hE => ?_
  repeat' (conv => whnf); first
   | (refine bcase_of (fun hr => ?_) (fun hr => ?_) <;> (try simp only [decide_eq_true_eq, decide_eq_false_iff_not, gt_iff_lt, bne_iff_ne, ne_eq, beq_iff_eq, bne_eq_false_iff_eq, beq_eq_false_iff_ne] at hr) <;> try (exfalso; first | omega | (simp at hr; done)))
   | (refine And.intro (by first | exact Nat.le_of_ble_eq_true rfl | decide) ?_)
   | (refine And.intro (by show indep _ _ = true; kernel_rfl) ?_)
   | (refine Exists.intro _ (And.intro (by first | exact rfl | exact ok36 _ _) ?_))
   | fail
  all_goals (conv => whnf)
  all_goals rfl
theorem ok23 (a : Int) (ha : in64 a) : PTriple Try.prog gv 23 [i64V a] (u64V a.natAbs) := by
  unfold in64 at ha
  refine PTriple.of_body (C := cx) Try.func23 rfl (by kernel_rfl) mixed fun E hE => ?_
  repeat' (conv => whnf); first
   | (refine bcase_of (fun hr => ?_) (fun hr => ?_) <;> (try simp only [decide_eq_true_eq, decide_eq_false_iff_not, gt_iff_lt, bne_iff_ne, ne_eq, beq_iff_eq, bne_eq_false_iff_eq, beq_eq_false_iff_ne] at hr) <;> try (exfalso; first | omega | (simp at hr; done)))
   | (refine And.intro (by first | exact Nat.le_of_ble_eq_true rfl | decide) ?_)
   | (refine And.intro (by show indep _ _ = true; kernel_rfl) ?_)
   | (refine Exists.intro _ (And.intro (by first | exact rfl) ?_))
   | fail
  all_goals (conv => whnf)
  all_goals (refine congrArg (fun x : Int => V.int .u64 x) ?_; simp only [wrapU]; omega)
theorem ok24 (a : Int) (ha : in64 a) : PTriple Try.prog gv 24 [i64V a] (u64V a.natAbs) := by
  unfold in64 at ha
  refine PTriple.of_body (C := cx) Try.func24 rfl (by kernel_rfl) mixed fun E hE => ?_
  repeat' (conv => whnf); first
   | (refine bcase_of (fun hr => ?_) (fun hr => ?_) <;> (try simp only [decide_eq_true_eq, decide_eq_false_iff_not, gt_iff_lt, bne_iff_ne, ne_eq, beq_iff_eq, bne_eq_false_iff_eq, beq_eq_false_iff_ne] at hr) <;> try (exfalso; first | omega | (simp at hr; done)))
   | (refine And.intro (by first | exact Nat.le_of_ble_eq_true rfl | decide) ?_)
   | (refine And.intro (by show indep _ _ = true; kernel_rfl) ?_)
   | (refine Exists.intro _ (And.intro (by first | exact rfl) ?_))
   | fail
  all_goals (conv => whnf)
  all_goals (refine congrArg (fun x : Int => V.int .u64 x) ?_; simp only [wrapU, wrapI]; (repeat' split) <;> omega)
theorem ok30 (x y : Int) (hx : 0 ≤ x ∧ x < 18446744073709551616) (hy : 0 ≤ y ∧ y < 18446744073709551616) : PTriple Try.prog gv 30 [u64V x, u64V y] (.tup [u64V (x * y / 18446744073709551616), u64V (x * y % 18446744073709551616)]) := by
  refine PTriple.of_body (C := cx) Try.func30 rfl (by kernel_rfl) mixed fun E hE => ?_
  repeat' (conv => whnf); first
   | (refine bcase_of (fun hr => ?_) (fun hr => ?_) <;> (try simp only [decide_eq_true_eq, decide_eq_false_iff_not, gt_iff_lt, bne_iff_ne, ne_eq, beq_iff_eq, bne_eq_false_iff_eq, beq_eq_false_iff_ne] at hr) <;> try (exfalso; first | omega | (simp at hr; done)))
   | (refine And.intro (by first | exact Nat.le_of_ble_eq_true rfl | decide | decide) ?_)
   | (refine And.intro (by show indep _ _ = true; kernel_rfl) ?_)
   | (refine Exists.intro _ (And.intro (by first | exact rfl) ?_))
   | fail
  all_goals (conv => whnf)
  all_goals (show V.tup [u64V _, u64V _] = _)
  have e1 := mul_parts x y
  have b1 := mul_bnd (a := x / 4294967296) (b := y / 4294967296) (by omega) (by omega) (by omega) (by omega)
  have b2 := mul_bnd (a := x / 4294967296) (b := y % 4294967296) (by omega) (by omega) (by omega) (by omega)
  have b3 := mul_bnd (a := x % 4294967296) (b := y / 4294967296) (by omega) (by omega) (by omega) (by omega)
  have b4 := mul_bnd (a := x % 4294967296) (b := y % 4294967296) (by omega) (by omega) (by omega) (by omega)
  simp only [wrapU, shr32, and32 x hx.1 hx.2, and32 y hy.1 hy.2]
  generalize x * y = p at *
  generalize x / 4294967296 * (y / 4294967296) = q1 at *
  generalize x / 4294967296 * (y % 4294967296) = q2 at *
  generalize x % 4294967296 * (y / 4294967296) = q3 at *
  generalize x % 4294967296 * (y % 4294967296) = q4 at *
  rw [and32' _ (by omega) (by omega)]
  refine congrArg (fun z : Int => V.tup [u64V z, u64V (p % 18446744073709551616)]) ?_
  omega
end Go.Proofs.Ytccnfkblkihgjaa
