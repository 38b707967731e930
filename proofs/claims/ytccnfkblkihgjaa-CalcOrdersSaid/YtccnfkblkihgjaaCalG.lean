/- Chapter 1: what its functions come to (CalG). -/
import Derived.Test.YtccnfkblkihgjaaCalE
set_option linter.unusedVariables false
set_option linter.unusedSimpArgs false
namespace Go.Proofs.Ytccnfkblkihgjaa
open Go Go.Vm
set_option maxRecDepth 100000
set_option maxHeartbeats 4000000
set_option linter.unusedSimpArgs false
theorem cmp_three (p q : Int) : cmpI p q = -1 ∨ cmpI p q = 0 ∨ cmpI p q = 1 := by
  unfold cmpI; split
  · exact .inl rfl
  · split
    · exact .inr (.inr rfl)
    · exact .inr (.inl rfl)
theorem cmp_m1 {p q : Int} (h : cmpI p q = -1) : p < q := by unfold cmpI at h; (repeat' split at h) <;> omega
theorem cmp_0 {p q : Int} (h : cmpI p q = 0) : p = q := by unfold cmpI at h; (repeat' split at h) <;> omega
theorem cmp_1 {p q : Int} (h : cmpI p q = 1) : q < p := by unfold cmpI at h; (repeat' split at h) <;> omega
theorem cmp_lt {p q : Int} (h : p < q) : cmpI p q = -1 := by unfold cmpI; rw [if_pos h]
theorem cmp_gt {p q : Int} (h : q < p) : cmpI p q = 1 := by unfold cmpI; rw [if_neg (by omega), if_pos h]
theorem cmp_eq {p q : Int} (h : p = q) : cmpI p q = 0 := by unfold cmpI; rw [if_neg (by omega), if_neg (by omega)]
theorem cmp_swap {p q v : Int} (h : cmpI p q = v) (w : Int) (hw : w = -v := by decide) : cmpI q p = w := by
  subst hw; subst h
  unfold cmpI; (repeat' split) <;> omega
theorem ok12v {v : Int} (a b c d : Int) (ha : in64 a) (hb : in64 b) (hc : in64 c) (hd : in64 d) (h : cmpI (a * b) (c * d) = v) : PTriple Try.prog gv 12 [i64V a, i64V b, i64V c, i64V d] (i64V v) := by
  rw [← h]; exact ok12 a b c d ha hb hc hd
theorem cmp_facts (p q : Int) : (cmpI p q = -1 ∨ cmpI p q = 0 ∨ cmpI p q = 1) ∧ (cmpI p q = -1 ↔ p < q) ∧ (cmpI p q = 0 ↔ p = q) ∧ cmpI q p = -cmpI p q := by
  unfold cmpI; (repeat' split) <;> omega
theorem ok6 (a b c d e f : Int) (ha : in64 a) (hb : in64 b) (hc : in64 c) (hd : in64 d) (he : in64 e) (hf : in64 f) : PTriple Try.prog gv 6 [.agg [i64V a, i64V b], .agg [i64V c, i64V d], .agg [i64V e, i64V f]] (.bool true) := by
  obtain ⟨f1, f2, f3, f4⟩ := cmp_facts (a * b) (c * d)
  obtain ⟨g1, g2, g3, _⟩ := cmp_facts (c * d) (e * f)
  obtain ⟨k1, k2, k3, _⟩ := cmp_facts (a * b) (e * f)
  obtain ⟨m1, m2, m3, _⟩ := cmp_facts a c
  have hw : IntKind.i64.wrap (0 - cmpI (a * b) (c * d)) = -cmpI (a * b) (c * d) := by rw [wrapI]; split <;> omega
  have c1 := ok12 a b c d ha hb hc hd
  have c2 := ok12 c d e f hc hd he hf
  have c3 := ok12 a b e f ha hb he hf
  have c4 := ok12 c d a b hc hd ha hb
  have c5 := ok12 b a c d hb ha hc hd
  have c6 := ok12 a 1 1 c ha one64 one64 hc
  rw [Int.mul_comm b a] at c5
  rw [Int.mul_one, Int.one_mul] at c6
  rw [f4] at c4
  generalize a * b = P at *
  generalize c * d = Q at *
  generalize e * f = R at *
  generalize cmpI P Q = p at *
  generalize cmpI Q R = q at *
  generalize cmpI P R = r at *
  generalize cmpI a c = n at *
  refine PTriple.of_body (C := cx) Try.func6 rfl (by kernel_rfl) mixed fun E hE => ?_
  repeat' (conv => whnf); first
   | (refine bcase_of (fun hr => ?_) (fun hr => ?_) <;> (try simp only [hw, decide_eq_true_eq, decide_eq_false_iff_not, gt_iff_lt, ge_iff_le, bne_iff_ne, ne_eq, beq_iff_eq, bne_eq_false_iff_eq, beq_eq_false_iff_ne] at hr) <;> try (exfalso; clear c1 c2 c3 c4 c5 c6; first | omega | exact hr trivial))
   | (refine And.intro (by first | exact Nat.le_of_ble_eq_true rfl | decide) ?_)
   | (refine And.intro (by show indep _ _ = true; kernel_rfl) ?_)
   | (refine Exists.intro _ (And.intro (by first | exact rfl | exact ok9 | exact c1 | exact c2 | exact c3 | exact c4 | exact c5 | exact c6) ?_))
   | fail
  all_goals (conv => whnf)
  all_goals rfl
end Go.Proofs.Ytccnfkblkihgjaa
