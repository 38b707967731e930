/- Chapter 24: what its functions come to (SesN). -/
import Derived.Test.YthgalldffgaddaaSesM
set_option linter.unusedVariables false
set_option linter.unusedSimpArgs false
namespace Go.Proofs.Ythgalldffgaddaa
open Go Go.Vm
set_option maxRecDepth 100000
set_option maxHeartbeats 4000000
set_option linter.unusedSimpArgs false
theorem ropen_neg (k l n : Int) (a b c d e f : Plc) (v : Int) (hv : v < 0) : ATriple Try.prog gv noRep 13 [.ref (0, 0) 0, i64V v] [.box (rcells k l n a b c d e f)] (.agg [i64V 0, i64V 0, i64V 1]) [.box (rcells k l n a b c d e f)] (none) := by
  refine ATriple.of_body (C := cx) Try.func13 rfl (by kernel_rfl) mixed rfl (by simp [okA, okC, okN]) (by simp [okOb, okC, okN, rcells]) (by simp [okG, okA, okC, okN]) (by simp [okOb, okC, okN, rcells]) (fun o ho => by cases ho) fun E hE => ?_
  repeat' (conv => whnf); first
   | (refine bcase_of (fun hr => ?_) (fun hr => ?_) <;> (try simp only [decide_eq_true_eq, decide_eq_false_iff_not, gt_iff_lt, ge_iff_le] at hr) <;> try (exfalso; first | omega | (simp_all; done)))
   | (refine And.intro (by first | exact Nat.le_of_ble_eq_true rfl | decide | decide | exact ⟨(by decide : (0 : Int) ≤ 0), (by decide : (0 : Int) < 6)⟩ | exact ⟨(by decide : (0 : Int) ≤ 1), (by decide : (1 : Int) < 6)⟩ | exact ⟨(by decide : (0 : Int) ≤ 2), (by decide : (2 : Int) < 6)⟩ | exact ⟨(by decide : (0 : Int) ≤ 3), (by decide : (3 : Int) < 6)⟩ | exact ⟨(by decide : (0 : Int) ≤ 4), (by decide : (4 : Int) < 6)⟩ | exact ⟨(by decide : (0 : Int) ≤ 5), (by decide : (5 : Int) < 6)⟩) ?_)
   | (refine And.intro (by show indep _ _ = true; kernel_rfl) ?_)
   | (refine Exists.intro _ (And.intro (by first | exact rfl) ?_))
   | fail
  all_goals (conv => whnf)
  all_goals exact ⟨rfl, rfl⟩
theorem ropen_0 (k l n : Int) (a b c d e f : Plc) (v : Int) (hv : 0 ≤ v)  (ho : a.opn = false) : ATriple Try.prog gv noRep 13 [.ref (0, 0) 0, i64V v] [.box (rcells k l n a b c d e f)] (.agg [i64V 0, i64V (IntKind.i64.wrap (a.turn + 1)), i64V 0]) [.box (rcells k l n ⟨IntKind.i64.wrap (a.turn + 1), true, v, IntKind.i64.wrap (n + l)⟩ b c d e f)] (none) := by
  refine ATriple.of_body (C := cx) Try.func13 rfl (by kernel_rfl) mixed rfl (by simp [okA, okC, okN]) (by simp [okOb, okC, okN, rcells]) (by simp [okG, okA, okC, okN]) (by simp [okOb, okC, okN, rcells]) (fun o ho => by cases ho) fun E hE => ?_
  repeat' (conv => whnf); first
   | (refine bcase_of (fun hr => ?_) (fun hr => ?_) <;> (try simp only [decide_eq_true_eq, decide_eq_false_iff_not, gt_iff_lt, ge_iff_le] at hr) <;> try (exfalso; first | omega | (simp_all; done)))
   | (refine And.intro (by first | exact Nat.le_of_ble_eq_true rfl | decide | decide | exact ⟨(by decide : (0 : Int) ≤ 0), (by decide : (0 : Int) < 6)⟩ | exact ⟨(by decide : (0 : Int) ≤ 1), (by decide : (1 : Int) < 6)⟩ | exact ⟨(by decide : (0 : Int) ≤ 2), (by decide : (2 : Int) < 6)⟩ | exact ⟨(by decide : (0 : Int) ≤ 3), (by decide : (3 : Int) < 6)⟩ | exact ⟨(by decide : (0 : Int) ≤ 4), (by decide : (4 : Int) < 6)⟩ | exact ⟨(by decide : (0 : Int) ≤ 5), (by decide : (5 : Int) < 6)⟩) ?_)
   | (refine And.intro (by show indep _ _ = true; kernel_rfl) ?_)
   | (refine Exists.intro _ (And.intro (by first | exact rfl) ?_))
   | refine VLoop.unroll hE mixed ?_
   | fail
  all_goals (conv => whnf)
  all_goals exact ⟨rfl, rfl⟩
theorem ropen_1 (k l n : Int) (a b c d e f : Plc) (v : Int) (hv : 0 ≤ v) (h0 : a.opn = true) (ho : b.opn = false) : ATriple Try.prog gv noRep 13 [.ref (0, 0) 0, i64V v] [.box (rcells k l n a b c d e f)] (.agg [i64V 1, i64V (IntKind.i64.wrap (b.turn + 1)), i64V 0]) [.box (rcells k l n a ⟨IntKind.i64.wrap (b.turn + 1), true, v, IntKind.i64.wrap (n + l)⟩ c d e f)] (none) := by
  refine ATriple.of_body (C := cx) Try.func13 rfl (by kernel_rfl) mixed rfl (by simp [okA, okC, okN]) (by simp [okOb, okC, okN, rcells]) (by simp [okG, okA, okC, okN]) (by simp [okOb, okC, okN, rcells]) (fun o ho => by cases ho) fun E hE => ?_
  repeat' (conv => whnf); first
   | (refine bcase_of (fun hr => ?_) (fun hr => ?_) <;> (try simp only [decide_eq_true_eq, decide_eq_false_iff_not, gt_iff_lt, ge_iff_le] at hr) <;> try (exfalso; first | omega | (simp_all; done)))
   | (refine And.intro (by first | exact Nat.le_of_ble_eq_true rfl | decide | decide | exact ⟨(by decide : (0 : Int) ≤ 0), (by decide : (0 : Int) < 6)⟩ | exact ⟨(by decide : (0 : Int) ≤ 1), (by decide : (1 : Int) < 6)⟩ | exact ⟨(by decide : (0 : Int) ≤ 2), (by decide : (2 : Int) < 6)⟩ | exact ⟨(by decide : (0 : Int) ≤ 3), (by decide : (3 : Int) < 6)⟩ | exact ⟨(by decide : (0 : Int) ≤ 4), (by decide : (4 : Int) < 6)⟩ | exact ⟨(by decide : (0 : Int) ≤ 5), (by decide : (5 : Int) < 6)⟩) ?_)
   | (refine And.intro (by show indep _ _ = true; kernel_rfl) ?_)
   | (refine Exists.intro _ (And.intro (by first | exact rfl) ?_))
   | refine VLoop.unroll hE mixed ?_
   | fail
  all_goals (conv => whnf)
  all_goals exact ⟨rfl, rfl⟩
theorem ropen_2 (k l n : Int) (a b c d e f : Plc) (v : Int) (hv : 0 ≤ v) (h0 : a.opn = true) (h1 : b.opn = true) (ho : c.opn = false) : ATriple Try.prog gv noRep 13 [.ref (0, 0) 0, i64V v] [.box (rcells k l n a b c d e f)] (.agg [i64V 2, i64V (IntKind.i64.wrap (c.turn + 1)), i64V 0]) [.box (rcells k l n a b ⟨IntKind.i64.wrap (c.turn + 1), true, v, IntKind.i64.wrap (n + l)⟩ d e f)] (none) := by
  refine ATriple.of_body (C := cx) Try.func13 rfl (by kernel_rfl) mixed rfl (by simp [okA, okC, okN]) (by simp [okOb, okC, okN, rcells]) (by simp [okG, okA, okC, okN]) (by simp [okOb, okC, okN, rcells]) (fun o ho => by cases ho) fun E hE => ?_
  repeat' (conv => whnf); first
   | (refine bcase_of (fun hr => ?_) (fun hr => ?_) <;> (try simp only [decide_eq_true_eq, decide_eq_false_iff_not, gt_iff_lt, ge_iff_le] at hr) <;> try (exfalso; first | omega | (simp_all; done)))
   | (refine And.intro (by first | exact Nat.le_of_ble_eq_true rfl | decide | decide | exact ⟨(by decide : (0 : Int) ≤ 0), (by decide : (0 : Int) < 6)⟩ | exact ⟨(by decide : (0 : Int) ≤ 1), (by decide : (1 : Int) < 6)⟩ | exact ⟨(by decide : (0 : Int) ≤ 2), (by decide : (2 : Int) < 6)⟩ | exact ⟨(by decide : (0 : Int) ≤ 3), (by decide : (3 : Int) < 6)⟩ | exact ⟨(by decide : (0 : Int) ≤ 4), (by decide : (4 : Int) < 6)⟩ | exact ⟨(by decide : (0 : Int) ≤ 5), (by decide : (5 : Int) < 6)⟩) ?_)
   | (refine And.intro (by show indep _ _ = true; kernel_rfl) ?_)
   | (refine Exists.intro _ (And.intro (by first | exact rfl) ?_))
   | refine VLoop.unroll hE mixed ?_
   | fail
  all_goals (conv => whnf)
  all_goals exact ⟨rfl, rfl⟩
theorem ropen_3 (k l n : Int) (a b c d e f : Plc) (v : Int) (hv : 0 ≤ v) (h0 : a.opn = true) (h1 : b.opn = true) (h2 : c.opn = true) (ho : d.opn = false) : ATriple Try.prog gv noRep 13 [.ref (0, 0) 0, i64V v] [.box (rcells k l n a b c d e f)] (.agg [i64V 3, i64V (IntKind.i64.wrap (d.turn + 1)), i64V 0]) [.box (rcells k l n a b c ⟨IntKind.i64.wrap (d.turn + 1), true, v, IntKind.i64.wrap (n + l)⟩ e f)] (none) := by
  refine ATriple.of_body (C := cx) Try.func13 rfl (by kernel_rfl) mixed rfl (by simp [okA, okC, okN]) (by simp [okOb, okC, okN, rcells]) (by simp [okG, okA, okC, okN]) (by simp [okOb, okC, okN, rcells]) (fun o ho => by cases ho) fun E hE => ?_
  repeat' (conv => whnf); first
   | (refine bcase_of (fun hr => ?_) (fun hr => ?_) <;> (try simp only [decide_eq_true_eq, decide_eq_false_iff_not, gt_iff_lt, ge_iff_le] at hr) <;> try (exfalso; first | omega | (simp_all; done)))
   | (refine And.intro (by first | exact Nat.le_of_ble_eq_true rfl | decide | decide | exact ⟨(by decide : (0 : Int) ≤ 0), (by decide : (0 : Int) < 6)⟩ | exact ⟨(by decide : (0 : Int) ≤ 1), (by decide : (1 : Int) < 6)⟩ | exact ⟨(by decide : (0 : Int) ≤ 2), (by decide : (2 : Int) < 6)⟩ | exact ⟨(by decide : (0 : Int) ≤ 3), (by decide : (3 : Int) < 6)⟩ | exact ⟨(by decide : (0 : Int) ≤ 4), (by decide : (4 : Int) < 6)⟩ | exact ⟨(by decide : (0 : Int) ≤ 5), (by decide : (5 : Int) < 6)⟩) ?_)
   | (refine And.intro (by show indep _ _ = true; kernel_rfl) ?_)
   | (refine Exists.intro _ (And.intro (by first | exact rfl) ?_))
   | refine VLoop.unroll hE mixed ?_
   | fail
  all_goals (conv => whnf)
  all_goals exact ⟨rfl, rfl⟩
theorem ropen_4 (k l n : Int) (a b c d e f : Plc) (v : Int) (hv : 0 ≤ v) (h0 : a.opn = true) (h1 : b.opn = true) (h2 : c.opn = true) (h3 : d.opn = true) (ho : e.opn = false) : ATriple Try.prog gv noRep 13 [.ref (0, 0) 0, i64V v] [.box (rcells k l n a b c d e f)] (.agg [i64V 4, i64V (IntKind.i64.wrap (e.turn + 1)), i64V 0]) [.box (rcells k l n a b c d ⟨IntKind.i64.wrap (e.turn + 1), true, v, IntKind.i64.wrap (n + l)⟩ f)] (none) := by
  refine ATriple.of_body (C := cx) Try.func13 rfl (by kernel_rfl) mixed rfl (by simp [okA, okC, okN]) (by simp [okOb, okC, okN, rcells]) (by simp [okG, okA, okC, okN]) (by simp [okOb, okC, okN, rcells]) (fun o ho => by cases ho) fun E hE => ?_
  repeat' (conv => whnf); first
   | (refine bcase_of (fun hr => ?_) (fun hr => ?_) <;> (try simp only [decide_eq_true_eq, decide_eq_false_iff_not, gt_iff_lt, ge_iff_le] at hr) <;> try (exfalso; first | omega | (simp_all; done)))
   | (refine And.intro (by first | exact Nat.le_of_ble_eq_true rfl | decide | decide | exact ⟨(by decide : (0 : Int) ≤ 0), (by decide : (0 : Int) < 6)⟩ | exact ⟨(by decide : (0 : Int) ≤ 1), (by decide : (1 : Int) < 6)⟩ | exact ⟨(by decide : (0 : Int) ≤ 2), (by decide : (2 : Int) < 6)⟩ | exact ⟨(by decide : (0 : Int) ≤ 3), (by decide : (3 : Int) < 6)⟩ | exact ⟨(by decide : (0 : Int) ≤ 4), (by decide : (4 : Int) < 6)⟩ | exact ⟨(by decide : (0 : Int) ≤ 5), (by decide : (5 : Int) < 6)⟩) ?_)
   | (refine And.intro (by show indep _ _ = true; kernel_rfl) ?_)
   | (refine Exists.intro _ (And.intro (by first | exact rfl) ?_))
   | refine VLoop.unroll hE mixed ?_
   | fail
  all_goals (conv => whnf)
  all_goals exact ⟨rfl, rfl⟩
theorem ropen_5 (k l n : Int) (a b c d e f : Plc) (v : Int) (hv : 0 ≤ v) (h0 : a.opn = true) (h1 : b.opn = true) (h2 : c.opn = true) (h3 : d.opn = true) (h4 : e.opn = true) (ho : f.opn = false) : ATriple Try.prog gv noRep 13 [.ref (0, 0) 0, i64V v] [.box (rcells k l n a b c d e f)] (.agg [i64V 5, i64V (IntKind.i64.wrap (f.turn + 1)), i64V 0]) [.box (rcells k l n a b c d e ⟨IntKind.i64.wrap (f.turn + 1), true, v, IntKind.i64.wrap (n + l)⟩)] (none) := by
  refine ATriple.of_body (C := cx) Try.func13 rfl (by kernel_rfl) mixed rfl (by simp [okA, okC, okN]) (by simp [okOb, okC, okN, rcells]) (by simp [okG, okA, okC, okN]) (by simp [okOb, okC, okN, rcells]) (fun o ho => by cases ho) fun E hE => ?_
  repeat' (conv => whnf); first
   | (refine bcase_of (fun hr => ?_) (fun hr => ?_) <;> (try simp only [decide_eq_true_eq, decide_eq_false_iff_not, gt_iff_lt, ge_iff_le] at hr) <;> try (exfalso; first | omega | (simp_all; done)))
   | (refine And.intro (by first | exact Nat.le_of_ble_eq_true rfl | decide | decide | exact ⟨(by decide : (0 : Int) ≤ 0), (by decide : (0 : Int) < 6)⟩ | exact ⟨(by decide : (0 : Int) ≤ 1), (by decide : (1 : Int) < 6)⟩ | exact ⟨(by decide : (0 : Int) ≤ 2), (by decide : (2 : Int) < 6)⟩ | exact ⟨(by decide : (0 : Int) ≤ 3), (by decide : (3 : Int) < 6)⟩ | exact ⟨(by decide : (0 : Int) ≤ 4), (by decide : (4 : Int) < 6)⟩ | exact ⟨(by decide : (0 : Int) ≤ 5), (by decide : (5 : Int) < 6)⟩) ?_)
   | (refine And.intro (by show indep _ _ = true; kernel_rfl) ?_)
   | (refine Exists.intro _ (And.intro (by first | exact rfl) ?_))
   | refine VLoop.unroll hE mixed ?_
   | fail
  all_goals (conv => whnf)
  all_goals exact ⟨rfl, rfl⟩
theorem ropen_full (k l n : Int) (a b c d e f : Plc) (v : Int) (hv : 0 ≤ v) (h0 : a.opn = true) (h1 : b.opn = true) (h2 : c.opn = true) (h3 : d.opn = true) (h4 : e.opn = true) (h5 : f.opn = true) : ATriple Try.prog gv noRep 13 [.ref (0, 0) 0, i64V v] [.box (rcells k l n a b c d e f)] (.agg [i64V 0, i64V 0, i64V 10]) [.box (rcells k l n a b c d e f)] (none) := by
  refine ATriple.of_body (C := cx) Try.func13 rfl (by kernel_rfl) mixed rfl (by simp [okA, okC, okN]) (by simp [okOb, okC, okN, rcells]) (by simp [okG, okA, okC, okN]) (by simp [okOb, okC, okN, rcells]) (fun o ho => by cases ho) fun E hE => ?_
  repeat' (conv => whnf); first
   | (refine bcase_of (fun hr => ?_) (fun hr => ?_) <;> (try simp only [decide_eq_true_eq, decide_eq_false_iff_not, gt_iff_lt, ge_iff_le] at hr) <;> try (exfalso; first | omega | (simp_all; done)))
   | (refine And.intro (by first | exact Nat.le_of_ble_eq_true rfl | decide | decide | exact ⟨(by decide : (0 : Int) ≤ 0), (by decide : (0 : Int) < 6)⟩ | exact ⟨(by decide : (0 : Int) ≤ 1), (by decide : (1 : Int) < 6)⟩ | exact ⟨(by decide : (0 : Int) ≤ 2), (by decide : (2 : Int) < 6)⟩ | exact ⟨(by decide : (0 : Int) ≤ 3), (by decide : (3 : Int) < 6)⟩ | exact ⟨(by decide : (0 : Int) ≤ 4), (by decide : (4 : Int) < 6)⟩ | exact ⟨(by decide : (0 : Int) ≤ 5), (by decide : (5 : Int) < 6)⟩) ?_)
   | (refine And.intro (by show indep _ _ = true; kernel_rfl) ?_)
   | (refine Exists.intro _ (And.intro (by first | exact rfl) ?_))
   | refine VLoop.unroll hE mixed ?_
   | fail
  all_goals (conv => whnf)
  all_goals exact ⟨rfl, rfl⟩
end Go.Proofs.Ythgalldffgaddaa
