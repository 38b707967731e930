/- Chapter 1: what its functions come to (CalC). -/
import Derived.Test.YtccnfkblkihgjaaCalB
set_option linter.unusedVariables false
set_option linter.unusedSimpArgs false
namespace Go.Proofs.Ytccnfkblkihgjaa
open Go Go.Vm
set_option maxRecDepth 100000
set_option maxHeartbeats 4000000
set_option linter.unusedSimpArgs false
theorem smag_of {k : Int} {b : Bool} {hi lo : Int} (h1 : b = decide (k < 0)) (h2 : hi = (k.natAbs : Int) / 18446744073709551616) (h3 : lo = (k.natAbs : Int) % 18446744073709551616) : V.agg [.bool b, .int .u64 hi, .int .u64 lo] = smag k := by
  subst h1; subst h2; subst h3; rfl
theorem smag_cells {n m : Int} : ((decide (n < 0) == decide (m < 0)) && ((((n.natAbs : Int) / 18446744073709551616) == ((m.natAbs : Int) / 18446744073709551616)) && ((((n.natAbs : Int) % 18446744073709551616) == ((m.natAbs : Int) % 18446744073709551616)) && true))) = decide (n = m) := by
  rw [Bool.eq_iff_iff]
  simp only [Bool.and_eq_true, beq_iff_eq, decide_eq_decide, decide_eq_true_eq, and_true]
  omega
def small (b : Int) (n : Int) : Prop := (n.natAbs : Int) < b
abbrev W8 : Int := 340282366920938463463374607431768211456
theorem cmp_mul (a b : Int) : IntKind.i64.wrap (cmpI a 0 * cmpI b 0) = cmpI (a * b) 0 := by
  rcases Int.lt_trichotomy a 0 with ha | rfl | ha <;> rcases Int.lt_trichotomy b 0 with hb | rfl | hb
  · have := Int.mul_pos_of_neg_of_neg ha hb
    simp only [cmpI, if_pos ha, if_pos hb, if_neg (show ¬ a * b < 0 by omega), if_pos this]; rfl
  · rw [show cmpI 0 0 = 0 from rfl, Int.mul_zero, Int.mul_zero]; rfl
  · have := Int.mul_neg_of_neg_of_pos ha hb
    simp only [cmpI, if_pos ha, if_neg (show ¬ b < 0 by omega), if_pos hb, if_pos this]; rfl
  · rw [show cmpI 0 0 = 0 from rfl, Int.zero_mul, Int.zero_mul]; rfl
  · rfl
  · rw [show cmpI 0 0 = 0 from rfl, Int.zero_mul, Int.zero_mul]; rfl
  · have := Int.mul_neg_of_pos_of_neg ha hb
    simp only [cmpI, if_pos hb, if_neg (show ¬ a < 0 by omega), if_pos ha, if_pos this]; rfl
  · rw [show cmpI 0 0 = 0 from rfl, Int.mul_zero, Int.mul_zero]; rfl
  · have := Int.mul_pos ha hb
    simp only [cmpI, if_neg (show ¬ a < 0 by omega), if_pos ha, if_neg (show ¬ b < 0 by omega), if_pos hb, if_neg (show ¬ a * b < 0 by omega), if_pos this]; rfl
theorem cmp_cmp (p q : Int) (h : ¬ cmpI p 0 = cmpI q 0) : cmpI (cmpI p 0) (cmpI q 0) = cmpI p q := by
  unfold cmpI at *
  rcases Int.lt_trichotomy p 0 with hp | rfl | hp <;> rcases Int.lt_trichotomy q 0 with hq | rfl | hq <;> (repeat' split at h) <;> (repeat' split) <;> omega
theorem pair_is {p : Int × Bool} {n : Int} {b : Bool} (h1 : n = p.1) (h2 : b = p.2) : V.tup [.int .i64 n, .bool b] = pairV p := by
  subst h1; subst h2; rfl
abbrev smagB (s : Bool) (n : Int) : V := .agg [.bool s, .int .u64 ((n.natAbs : Int) / 18446744073709551616), .int .u64 ((n.natAbs : Int) % 18446744073709551616)]
theorem ok28' (a b : Int) : PTriple Try.prog gv 28 [i64V a, i64V b] (i64V (cmpI (a * b) 0)) := by
  rw [← cmp_mul]; exact ok28 a b
theorem abs_mul (a b : Int) : (a.natAbs : Int) * b.natAbs = ((a * b).natAbs : Int) := by
  rw [Int.natAbs_mul]; rfl
theorem ok30' (a b : Int) (ha : in64 a) (hb : in64 b) : PTriple Try.prog gv 30 [u64V a.natAbs, u64V b.natAbs] (.tup [u64V (((a * b).natAbs : Int) / 18446744073709551616), u64V (((a * b).natAbs : Int) % 18446744073709551616)]) := by
  rw [← abs_mul]
  exact ok30 _ _ (abs_in ha) (abs_in hb)
theorem cmp_or (p q : Int) (h : cmpI p 0 = cmpI q 0) : IntKind.i64.wrap (cmpI p 0 * orV (cmpI ((p.natAbs : Int) / 18446744073709551616) ((q.natAbs : Int) / 18446744073709551616)) (cmpI ((p.natAbs : Int) % 18446744073709551616) ((q.natAbs : Int) % 18446744073709551616))) = cmpI p q := by
  have key : orV (cmpI ((p.natAbs : Int) / 18446744073709551616) ((q.natAbs : Int) / 18446744073709551616)) (cmpI ((p.natAbs : Int) % 18446744073709551616) ((q.natAbs : Int) % 18446744073709551616)) = cmpI p.natAbs q.natAbs := by
    unfold orV cmpI
    (repeat' split) <;> omega
  rw [key]
  unfold cmpI at *
  rcases Int.lt_trichotomy p 0 with hp | rfl | hp
  · have hq : q < 0 := by
      rw [if_pos hp] at h
      (repeat' split at h) <;> omega
    rw [if_pos hp, wrapI]
    (repeat' split) <;> omega
  · have hq : q = 0 := by
      simp at h
      (repeat' split at h) <;> omega
    subst hq
    decide
  · have hq : 0 < q := by
      rw [if_neg (show ¬ p < 0 by omega), if_pos hp] at h
      (repeat' split at h) <;> omega
    rw [if_neg (show ¬ p < 0 by omega), if_pos hp, wrapI]
    (repeat' split) <;> omega
theorem ok12 (a b c d : Int) (ha : in64 a) (hb : in64 b) (hc : in64 c) (hd : in64 d) : PTriple Try.prog gv 12 [i64V a, i64V b, i64V c, i64V d] (i64V (cmpI (a * b) (c * d))) := by
  refine PTriple.of_body (C := cx) Try.func12 rfl (by kernel_rfl) mixed fun E hE => ?_
  repeat' (conv => whnf); first
   | (refine bcase_of (fun hr => ?_) (fun hr => ?_) <;> (try simp only [decide_eq_true_eq, decide_eq_false_iff_not, gt_iff_lt, bne_iff_ne, ne_eq, beq_iff_eq, bne_eq_false_iff_eq, beq_eq_false_iff_ne] at hr) <;> try (exfalso; first | omega | (simp at hr; done)))
   | (refine And.intro (by first | exact Nat.le_of_ble_eq_true rfl | decide | exact ⟨Nat.le_of_ble_eq_true rfl, Nat.le_of_ble_eq_true rfl⟩ | exact pure_two _ _) ?_)
   | (refine And.intro (by show indep _ _ = true; kernel_rfl) ?_)
   | (refine Exists.intro _ (And.intro (by first | exact rfl | exact ok28' _ _ | exact ok29 _ _ | exact ok23 _ ha | exact ok23 _ hb | exact ok23 _ hc | exact ok23 _ hd | exact ok30' a b ha hb | exact ok30' c d hc hd | exact ok32 _ _ | exact ok31 _ _) ?_))
   | fail
  all_goals (conv => whnf)
  · exact congrArg i64V (cmp_cmp _ _ hr)
  · exact congrArg i64V (cmp_or _ _ hr)
theorem ok21 (a : Int) (ha : in64 a) : PTriple Try.prog gv 21 [i64V a] (smag a) := by
  have ha2 := ha; unfold in64 at ha2
  refine PTriple.of_body (C := cx) Try.func21 rfl (by kernel_rfl) mixed fun E hE => ?_
  repeat' (conv => whnf); first
   | (refine bcase_of (fun hr => ?_) (fun hr => ?_) <;> (try simp only [decide_eq_true_eq, decide_eq_false_iff_not, gt_iff_lt, bne_iff_ne, ne_eq, beq_iff_eq, bne_eq_false_iff_eq, beq_eq_false_iff_ne] at hr) <;> try (exfalso; first | omega | (simp at hr; done)))
   | (refine And.intro (by first | exact Nat.le_of_ble_eq_true rfl | decide) ?_)
   | (refine And.intro (by show indep _ _ = true; kernel_rfl) ?_)
   | (refine Exists.intro _ (And.intro (by first | exact rfl | exact ok24 _ ha) ?_))
   | fail
  all_goals (conv => whnf)
  all_goals refine smag_of ?_ ?_ ?_
  all_goals (try simp only [wrapU] at *)
  all_goals (first | omega | rfl | (exact (decide_eq_true (show _ by omega)).symm) | (exact (decide_eq_false (show _ by omega)).symm) | (exact decide_eq_decide.2 (show _ by omega)) | skip)
theorem ok33 (n m : Int) (s t : Bool) : PTriple Try.prog gv 33 [smagB s n, smagB t m] (.bool (decide ((n.natAbs : Int) < m.natAbs))) := by
  refine PTriple.of_body (C := cx) Try.func33 rfl (by kernel_rfl) mixed fun E hE => ?_
  repeat' (conv => whnf); first
   | (refine bcase_of (fun hr => ?_) (fun hr => ?_) <;> (try simp only [decide_eq_true_eq, decide_eq_false_iff_not, gt_iff_lt, bne_iff_ne, ne_eq, beq_iff_eq, bne_eq_false_iff_eq, beq_eq_false_iff_ne] at hr) <;> try (exfalso; first | omega | (simp at hr; done)))
   | (refine And.intro (by first | exact Nat.le_of_ble_eq_true rfl | decide) ?_)
   | (refine And.intro (by show indep _ _ = true; kernel_rfl) ?_)
   | (refine Exists.intro _ (And.intro (by first | exact rfl) ?_))
   | fail
  all_goals (conv => whnf)
  all_goals (first | exact congrArg V.bool (decide_eq_true (show _ by omega)).symm | exact congrArg V.bool (decide_eq_false (show _ by omega)).symm)
theorem ok20 (n m : Int) (s t : Bool) (hs : decide (n < 0) = s) (ht : decide (m < 0) = t) (hn : (n.natAbs : Int) < 170141183460469231731687303715884105728) (hm : (m.natAbs : Int) < 170141183460469231731687303715884105728) : PTriple Try.prog gv 20 [smagB s n, smagB t m] (smag (n + m)) := by
  subst hs
  subst ht
  refine PTriple.of_body (C := cx) Try.func20 rfl (by kernel_rfl) mixed fun E hE => ?_
  repeat' (conv => whnf); first
   | (refine bcase_of (fun hr => ?_) (fun hr => ?_) <;> (try simp only [decide_eq_true_eq, decide_eq_false_iff_not, gt_iff_lt, bne_iff_ne, ne_eq, beq_iff_eq, bne_eq_false_iff_eq, beq_eq_false_iff_ne] at hr) <;> try (exfalso; first | omega | (simp at hr; done)))
   | (refine And.intro (by first | exact Nat.le_of_ble_eq_true rfl | decide) ?_)
   | (refine And.intro (by show indep _ _ = true; kernel_rfl) ?_)
   | (refine Exists.intro _ (And.intro (by first | exact rfl | exact ok33 _ _ _ _) ?_))
   | fail
  all_goals (conv => whnf)
  all_goals refine smag_of ?_ ?_ ?_
  all_goals (try simp only [wrapU] at *)
  all_goals (first | omega | rfl | (exact (decide_eq_true (show _ by omega)).symm) | (exact (decide_eq_false (show _ by omega)).symm) | (exact decide_eq_decide.2 (show _ by omega)) | skip)
theorem ok22 (n : Int) (s : Bool) (hs : decide (n < 0) = s) : PTriple Try.prog gv 22 [smagB s n] (smag (-n)) := by
  subst hs
  refine PTriple.of_body (C := cx) Try.func22 rfl (by kernel_rfl) mixed fun E hE => ?_
  repeat' (conv => whnf); first
   | (refine bcase_of (fun hr => ?_) (fun hr => ?_) <;> (try simp only [decide_eq_true_eq, decide_eq_false_iff_not, gt_iff_lt, bne_iff_ne, ne_eq, beq_iff_eq, bne_eq_false_iff_eq, beq_eq_false_iff_ne] at hr) <;> try (exfalso; first | omega | (simp at hr; done)))
   | (refine And.intro (by first | exact Nat.le_of_ble_eq_true rfl | decide) ?_)
   | (refine And.intro (by show indep _ _ = true; kernel_rfl) ?_)
   | (refine Exists.intro _ (And.intro (by first | exact rfl) ?_))
   | fail
  all_goals (conv => whnf)
  all_goals refine smag_of ?_ ?_ ?_
  all_goals (try simp only [wrapU] at *)
  all_goals (first | omega | rfl | (exact (decide_eq_true (show _ by omega)).symm) | (exact (decide_eq_false (show _ by omega)).symm) | (exact decide_eq_decide.2 (show _ by omega)) | skip)
theorem ok13 (n m : Int) (s t : Bool) (hs : decide (n < 0) = s) (ht : decide (m < 0) = t) : PTriple Try.prog gv 13 [smagB s n, smagB t m] (i64V (cmpI n m)) := by
  subst hs
  subst ht
  refine PTriple.of_body (C := cx) Try.func13 rfl (by kernel_rfl) mixed fun E hE => ?_
  repeat' (conv => whnf); first
   | (refine bcase_of (fun hr => ?_) (fun hr => ?_) <;> (try replace hr := (smag_cells (n := n) (m := m)).symm.trans hr) <;> (try simp only [decide_eq_true_eq, decide_eq_false_iff_not, gt_iff_lt, bne_iff_ne, ne_eq, beq_iff_eq, bne_eq_false_iff_eq, beq_eq_false_iff_ne] at hr) <;> try (exfalso; first | omega | (simp at hr; done)))
   | (refine And.intro (by first | exact Nat.le_of_ble_eq_true rfl | decide) ?_)
   | (refine And.intro (by show indep _ _ = true; kernel_rfl) ?_)
   | (refine Exists.intro _ (And.intro (by first | exact rfl | exact ok33 _ _ _ _) ?_))
   | fail
  all_goals (conv => whnf)
  all_goals (refine congrArg i64V ?_; unfold cmpI; (repeat' split) <;> omega)
theorem ok27 (n : Int) (s : Bool) (hs : decide (n < 0) = s) : PTriple Try.prog gv 27 [smagB s n] (pairV (fit n)) := by
  subst hs
  refine PTriple.of_body (C := cx) Try.func27 rfl (by kernel_rfl) mixed fun E hE => ?_
  repeat' (conv => whnf); first
   | (refine bcase_of (fun hr => ?_) (fun hr => ?_) <;> (try simp only [decide_eq_true_eq, decide_eq_false_iff_not, gt_iff_lt, bne_iff_ne, ne_eq, beq_iff_eq, bne_eq_false_iff_eq, beq_eq_false_iff_ne] at hr) <;> try (exfalso; first | omega | (simp at hr; done)))
   | (refine And.intro (by first | exact Nat.le_of_ble_eq_true rfl | decide) ?_)
   | (refine And.intro (by show indep _ _ = true; kernel_rfl) ?_)
   | (refine Exists.intro _ (And.intro (by first | exact rfl) ?_))
   | fail
  all_goals (conv => whnf)
  all_goals refine pair_is ?_ ?_
  all_goals unfold fit
  all_goals try simp only [wrapI]
  all_goals ((repeat' split) <;> first | rfl | omega)
end Go.Proofs.Ytccnfkblkihgjaa
