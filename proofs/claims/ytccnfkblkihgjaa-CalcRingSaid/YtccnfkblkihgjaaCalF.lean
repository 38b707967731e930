/- Chapter 1: what its functions come to (CalF). -/
import Derived.Test.YtccnfkblkihgjaaCalE
set_option linter.unusedVariables false
set_option linter.unusedSimpArgs false
namespace Go.Proofs.Ytccnfkblkihgjaa
open Go Go.Vm
set_option maxRecDepth 100000
set_option maxHeartbeats 4000000
set_option linter.unusedSimpArgs false
theorem ok3 (l : List Int) (hi : ∀ x ∈ l, in64 x) : PTriple Try.prog gv 3 [i64s l] (.bool true) := by
  refine PTriple.of_body (C := cx) Try.func3 rfl (by kernel_rfl) mixed fun E hE => ?_
  repeat' (conv => whnf); first
   | (refine bcase_of (fun hr => ?_) (fun hr => ?_) <;> (try have hl : l.length ≤ 2000 := by simp at hr; omega) <;> (try simp only [decide_eq_true_eq, decide_eq_false_iff_not, gt_iff_lt, bne_iff_ne, ne_eq, beq_iff_eq, bne_eq_false_iff_eq, beq_eq_false_iff_ne] at hr) <;> try (exfalso; first | omega | (simp at hr; done) | (rename_i hq; rw [hq] at hr; cases hr; done) | (simp_all; done)))
   | (refine And.intro (by first | exact Nat.le_of_ble_eq_true rfl | decide | exact pure_i64s l) ?_)
   | (refine And.intro (by show indep _ _ = true; kernel_rfl) ?_)
   | (refine Exists.intro _ (And.intro (by first | exact rfl | exact ok9 | exact ok10 l hl hi | exact ok11 l hl hi) ?_))
   | fail
  all_goals (conv => whnf)
  all_goals rfl
theorem ok4 (a b c d : Int) (ha : in64 a) (hb : in64 b) (hc : in64 c) (hd : in64 d) : PTriple Try.prog gv 4 [.agg [i64V a, i64V b, i64V c, i64V d]] (.bool true) := by
  refine PTriple.of_body (C := cx) Try.func4 rfl (by kernel_rfl) mixed fun E hE => ?_
  repeat' (conv => whnf); first
   | (refine bcase_of (fun hr => ?_) (fun hr => ?_) <;> (try simp only [decide_eq_true_eq, decide_eq_false_iff_not, gt_iff_lt, bne_iff_ne, ne_eq, beq_iff_eq, bne_eq_false_iff_eq, beq_eq_false_iff_ne] at hr) <;> try (exfalso; first | omega | (simp at hr; done) | (rename_i hq; rw [hq] at hr; cases hr; done) | (simp_all; done)))
   | (refine And.intro (by first | exact Nat.le_of_ble_eq_true rfl | decide) ?_)
   | (refine And.intro (by show indep _ _ = true; kernel_rfl) ?_)
   | (refine Exists.intro _ (And.intro (by first | exact rfl | exact ok9 | exact ok12 a b c d ha hb hc hd | exact ok14 a b ha hb | exact ok14 c d hc hd | exact ok13 (a * b) (c * d) _ _ rfl rfl) ?_))
   | fail
  all_goals (conv => whnf)
  all_goals rfl
theorem neg127 {n : Int} (h : in64 n) : ((-n).natAbs : Int) < 170141183460469231731687303715884105728 := by unfold in64 at h; omega
theorem ok7 (a b : Int) (ha : in64 a) (hb : in64 b) : PTriple Try.prog gv 7 [i64V a, i64V b] (.bool true) := by
  refine PTriple.of_body (C := cx) Try.func7 rfl (by kernel_rfl) mixed fun E hE => ?_
  repeat' (conv => whnf); first
   | (refine bcase_of (fun hr => ?_) (fun hr => ?_) <;> (try simp only [decide_eq_true_eq, decide_eq_false_iff_not, gt_iff_lt, bne_iff_ne, ne_eq, beq_iff_eq, bne_eq_false_iff_eq, beq_eq_false_iff_ne] at hr) <;> try (exfalso; first | omega | (simp at hr; done) | (rename_i hq; rw [hq] at hr; cases hr; done) | (simp_all; done)))
   | (refine And.intro (by first | exact Nat.le_of_ble_eq_true rfl | decide) ?_)
   | (refine And.intro (by show indep _ _ = true; kernel_rfl) ?_)
   | (refine Exists.intro _ (And.intro (by first | exact rfl | exact ok9 | exact ok15 a b ha hb | exact ok16 a b ha hb | exact ok17 a b ha hb | exact ok18 a ha | exact ok21 a ha | exact ok21 b hb | exact ok20 a b _ _ rfl rfl (abs127 ha) (abs127 hb) | exact ok22 b _ rfl | exact ok20 a (-b) _ _ rfl rfl (abs127 ha) (neg127 hb) | exact ok14 a b ha hb | exact ok22 a _ rfl | exact ok23 a ha | exact ok24 a ha | exact ok19 _ _ (a + b) _ rfl (fit_is2 rfl (by assumption)) | exact ok19 _ _ (a + -b) _ rfl (fit_is2 (j := a - b) Int.sub_eq_add_neg (by assumption)) | exact ok19 _ _ (a * b) _ rfl (fit_is2 rfl (by assumption)) | exact ok19 _ _ (-a) _ rfl (fit_is2 rfl (by assumption))) ?_))
   | fail
  all_goals (conv => whnf)
  all_goals rfl
theorem ok15c (a b : Int) (ha : in64 a) (hb : in64 b) : PTriple Try.prog gv 15 [i64V b, i64V a] (pairV (fit (a + b))) := by
  rw [Int.add_comm]; exact ok15 b a hb ha
theorem ok17c (a b : Int) (ha : in64 a) (hb : in64 b) : PTriple Try.prog gv 17 [i64V b, i64V a] (pairV (fit (a * b))) := by
  rw [Int.mul_comm]; exact ok17 b a hb ha
theorem subback (a b : Int) (ha : in64 a) (hb : in64 b) (h : (fit (a + b)).2 = true) : PTriple Try.prog gv 16 [i64V (fit (a + b)).1, i64V b] (pairV (a, true)) := by
  have := ok16 (fit (a + b)).1 b (fit_in _) hb
  rw [fit_true h, Int.add_sub_cancel, fit_of ha] at this
  rw [fit_true h]; exact this
theorem addneg (a b : Int) (ha : in64 a) (h : (fit (-b)).2 = true) : PTriple Try.prog gv 15 [i64V a, i64V (fit (-b)).1] (pairV (fit (a - b))) := by
  have := ok15 a (fit (-b)).1 ha (fit_in _)
  rw [fit_true h] at this
  rw [fit_true h, Int.sub_eq_add_neg]; exact this
theorem ok8 (a b : Int) (ha : in64 a) (hb : in64 b) : PTriple Try.prog gv 8 [i64V a, i64V b] (.bool true) := by
  refine PTriple.of_body (C := cx) Try.func8 rfl (by kernel_rfl) mixed fun E hE => ?_
  repeat' (conv => whnf); first
   | (refine bcase_of (fun hr => ?_) (fun hr => ?_) <;> (try simp only [decide_eq_true_eq, decide_eq_false_iff_not, gt_iff_lt, bne_iff_ne, ne_eq, beq_iff_eq, bne_eq_false_iff_eq, beq_eq_false_iff_ne] at hr) <;> try (exfalso; first | omega | (simp at hr; done) | (rename_i hq; rw [hq] at hr; cases hr; done) | (simp_all; done)))
   | (refine And.intro (by first | exact Nat.le_of_ble_eq_true rfl | decide) ?_)
   | (refine And.intro (by show indep _ _ = true; kernel_rfl) ?_)
   | (refine Exists.intro _ (And.intro (by first | exact rfl | exact ok9 | exact ok15 a b ha hb | exact ok15c a b ha hb | exact ok17 a b ha hb | exact ok17c a b ha hb | exact subback a b ha hb (by assumption) | exact ok18 b hb | exact ok16 a b ha hb | exact addneg a b ha (by assumption)) ?_))
   | fail
  all_goals (conv => whnf)
  all_goals rfl
end Go.Proofs.Ytccnfkblkihgjaa
